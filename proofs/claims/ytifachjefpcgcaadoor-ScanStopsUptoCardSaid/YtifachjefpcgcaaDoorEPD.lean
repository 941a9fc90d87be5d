import Derived.Test.YtifachjefpcgcaaDoorEP0
namespace Go.Proofs.YtifachjefpcgcaaDoor.P
open Go.RowKit Go.Proofs.YtifachjefpcgcaaDoorW.PrintWords Go.Proofs.YtifachjefpcgcaaDoorW.PrintLast Go.Proofs.YtifachjefpcgcaaDoorW.PrintMore
attribute [local go_sem] max2_int min2_int max_two min_two max_three min_three max_four min_four
set_option linter.unusedVariables false
set_option linter.unusedSimpArgs false
def lex_digit.f (a0 : Int) : Option (Bool) := if a0 ≥ 48 then (some (decide (a0 ≤ 57))) else (some false)
def lex_nibble.f (a0 : Int) : Option (Int) := (lex_digit.f a0).bind fun t101 => (if t101 = true then (some ((a0 - 48) % 256)) else (if a0 ≥ 97 then (if a0 ≤ 102 then (some (((a0 - 97) % 256) + 10)) else (some (-1))) else (some (-1))))
mutual
def lex_piece.j0 : Nat → ByteArray → Bool → Option (Int × Int)
  | 0, _, _ => none
  | k + 1, x0, x4 => if x4 = true then (some (0, 0)) else (if 0 < (x0.size : Int) then (if (bt x0 0) = 92 then (if (x0.size : Int) < 2 then (some (0, 0)) else (if 1 < (x0.size : Int) then (if (bt x0 1) = 110 then (some (10, 2)) else (if (bt x0 1) = 116 then (some (9, 2)) else (if (bt x0 1) = 34 then (lex_piece.j1 k x0 (bt x0 1) ((bt x0 1) == 34)) else (lex_piece.j1 k x0 (bt x0 1) ((bt x0 1) == 92))))) else (none))) else (some (bt x0 0, 1))) else (none))
def lex_piece.j1 : Nat → ByteArray → Int → Bool → Option (Int × Int)
  | 0, _, _, _ => none
  | k + 1, x0, x33, x38 => if x38 = true then (if 1 < (x0.size : Int) then (some (bt x0 1, 2)) else (none)) else (if x33 = 120 then (if (x0.size : Int) ≥ 4 then (if 2 < (x0.size : Int) then ((lex_nibble.f (bt x0 2)).bind fun t102 => (if t102 ≥ 0 then (if 3 < (x0.size : Int) then ((lex_nibble.f (bt x0 3)).bind fun t103 => (lex_piece.j2 k x0 (decide (t103 ≥ 0)))) else (none)) else (lex_piece.j2 k x0 false))) else (none)) else (lex_piece.j2 k x0 false)) else (some (0, 0)))
def lex_piece.j2 : Nat → ByteArray → Bool → Option (Int × Int)
  | 0, _, _ => none
  | k + 1, x0, x59 => if x59 = true then (if 2 < (x0.size : Int) then ((lex_nibble.f (bt x0 2)).bind fun t104 => (if 3 < (x0.size : Int) then ((lex_nibble.f (bt x0 3)).bind fun t105 => (some ((Go.bits .or .i64 (wrap64 (t104 * 16)) t105) % 256, 4))) else (none))) else (none)) else (some (0, 0))
end
def lex_piece.f (k : Nat) (a0 : ByteArray) : Option (Int × Int) := if a0.toList = ([] : List UInt8) then (lex_piece.j0 k a0 true) else (if 0 < (a0.size : Int) then (if (bt a0 0) < 32 then (lex_piece.j0 k a0 true) else (if (bt a0 0) > 126 then (lex_piece.j0 k a0 true) else (lex_piece.j0 k a0 ((bt a0 0) == 34)))) else (none))
mutual
def lex_quoted.j0 : Nat → ByteArray → Bool → Option (ByteArray × Int)
  | 0, _, _ => none
  | k + 1, x0, x14 => if x14 = true then (some ((⟨#[]⟩ : ByteArray), 0)) else (lex_quoted.l0 k x0 ([] : List Int) 1)
def lex_quoted.l0 : Nat → ByteArray → List Int → Int → Option (ByteArray × Int)
  | 0, _, _, _ => none
  | k + 1, x0, x4, x5 => if x5 < (x0.size : Int) then (if 0 ≤ x5 then (lex_quoted.j2 k x0 x4 x5 ((bt x0 x5) != 34)) else (none)) else (lex_quoted.j2 k x0 x4 x5 false)
def lex_quoted.j2 : Nat → ByteArray → List Int → Int → Bool → Option (ByteArray × Int)
  | 0, _, _, _, _ => none
  | k + 1, x0, x4, x5, x24 => if x24 = true then (if 0 ≤ x5 then (if x5 ≤ (x0.size : Int) then ((lex_piece.f k (x0.extract (x5 : Int).toNat x0.size)).bind fun bt106 => (if bt106.2 = 0 then (some ((⟨#[]⟩ : ByteArray), 0)) else (if (x4.length : Int) ≥ 4096 then (some ((⟨#[]⟩ : ByteArray), 0)) else (if x4.length < 140737488355328 then (lex_quoted.l0 k x0 (x4 ++ [bt106.1]) (wrap64 (x5 + bt106.2))) else (none))))) else (none)) else (none)) else (if x5 ≥ (x0.size : Int) then (some ((⟨#[]⟩ : ByteArray), 0)) else (some (strOfNums x4, wrap64 (x5 + 1))))
end
def lex_quoted.f (k : Nat) (a0 : ByteArray) : Option (ByteArray × Int) := if a0.toList = ([] : List UInt8) then (lex_quoted.j0 k a0 true) else (if 0 < (a0.size : Int) then (lex_quoted.j0 k a0 ((bt a0 0) != 34)) else (none))
def lex_letter.f (a0 : Int) : Option (Bool) := if a0 = 95 then (some true) else (if a0 ≥ 97 then (if a0 ≤ 122 then (some true) else (if a0 ≥ 65 then (some (decide (a0 ≤ 90))) else (some false))) else (if a0 ≥ 65 then (some (decide (a0 ≤ 90))) else (some false)))
def isLetter (c : Int) : Bool := decide (c = 95) || (decide (97 ≤ c) && decide (c ≤ 122)) || (decide (65 ≤ c) && decide (c ≤ 90))
def isDigit (c : Int) : Bool := decide (48 ≤ c) && decide (c ≤ 57)
def fnP (m : Nat) : Option (Int → Bool) :=
  if m = 56 then some (fun c => decide (c ≠ 10))
  else if m = 49 then some (fun c => isLetter c || isDigit c)
  else if m = 50 then some isDigit
  else none
def lex_run.f (a0 : ByteArray) (a1 : Int) (a2 : Nat) : Option (Int) :=
  if 0 ≤ a1 ∧ a1 ≤ a0.size ∧ a0.size ≤ 1099511627776 then (fnP a2).map (fun p => (((a0.data.toList.drop a1.toNat).takeWhile (fun c => p (c.toNat : Int))).length : Int)) else none
def keyTexts : List (List UInt8) := [[105, 110, 99, 108, 117, 100, 101], [97, 115], [101, 120, 112, 111, 114, 116], [99, 111, 110, 115, 116], [102, 117, 110, 99], [118, 97, 114], [105, 102], [101, 108, 115, 101], [119, 104, 105, 108, 101], [114, 101, 116, 117, 114, 110], [112, 114, 105, 110, 116], [116, 114, 117, 101], [102, 97, 108, 115, 101], [105, 110, 116], [98, 111, 111, 108], [116, 101, 120, 116]]
def lex_Key.f (a0 : ByteArray) : Option (Bool) := some (decide (a0.data.toList ∈ keyTexts))
def lex_whole.f (a0 : ByteArray) : Option (Int × Bool) :=
  match a0.data.toList with
  | [] => none
  | c :: _ => if isDigit (c.toNat : Int) = true ∧ a0.size ≤ 1099511627776 then
      match Lib.parseIntB 64 a0.data.toList with
      | .ok v => some (v, decide (Lib.itoa v = a0.data.toList))
      | .range => some (9223372036854775807, false)
      | .syntax => none
    else none
def stringslite_IndexByte.f (a0 : ByteArray) (a1 : Int) : Option (Int) := some (Lib.indexByte a0.data.toList a1.toNat.toUInt8)
def strings_IndexByte.f (a0 : ByteArray) (a1 : Int) : Option (Int) := (stringslite_IndexByte.f a0 a1).bind fun t111 => (some t111)
def stringslite_HasPrefix.f (a0 : ByteArray) (a1 : ByteArray) : Option (Bool) := if (a0.size : Int) ≥ (a1.size : Int) then (if 0 ≤ (a1.size : Int) then (if (a1.size : Int) ≤ (a0.size : Int) then (some ((a0.extract 0 ((a1.size : Int) : Int).toNat).toList == a1.toList)) else (none)) else (none)) else (some false)
def strings_HasPrefix.f (a0 : ByteArray) (a1 : ByteArray) : Option (Bool) := (stringslite_HasPrefix.f a0 a1).bind fun t112 => (some t112)
def twoSigns : List (List UInt8) := [[61, 61], [33, 61], [60, 61], [62, 61], [43, 43], [38, 38], [124, 124]]
def oneSigns : List UInt8 := [40, 41, 123, 125, 44, 59, 58, 46, 61, 60, 62, 43, 45, 42, 47, 37, 33, 35]
def lex_sign.f (a0 : ByteArray) : Option (Int) := if twoSigns.any (fun t => decide (a0.data.toList.take 2 = t)) = true then some 2 else if a0.size = 0 then none else if Lib.indexByte oneSigns ((bt a0 0).toNat.toUInt8) ≥ 0 then some 1 else some 0
def lex_token.j0 : Nat → Int → Bool → Option (Int × Int × Int)
  | 0, _, _ => none
  | k + 1, x7, x53 => if x53 = true then (some (0, 0, 121)) else (some (2, x7, 0))
def lex_token.f (k : Nat) (a0 : ByteArray) : Option (Int × Int × Int) := if 0 < (a0.size : Int) then ((lex_letter.f (bt a0 0)).bind fun t113 => (if t113 = true then ((lex_run.f a0 0 49).bind fun t114 => (if t114 > 32 then (some (0, 0, 123)) else (if 0 ≤ t114 then (if t114 ≤ (a0.size : Int) then ((lex_Key.f (a0.extract 0 (t114 : Int).toNat)).bind fun t115 => (if t115 = true then (some (4, t114, 0)) else (some (1, t114, 0)))) else (none)) else (none)))) else ((lex_digit.f (bt a0 0)).bind fun t116 => (if t116 = true then ((lex_run.f a0 0 50).bind fun t117 => (if 0 ≤ t117 then (if t117 ≤ (a0.size : Int) then ((lex_whole.f (a0.extract 0 (t117 : Int).toNat)).bind fun bt118 => (if bt118.2 = true then (if t117 < (a0.size : Int) then ((lex_letter.f (bt a0 t117)).bind fun t120 => (lex_token.j0 k t117 t120)) else (lex_token.j0 k t117 false)) else (lex_token.j0 k t117 true))) else (none)) else (none))) else (if (bt a0 0) = 34 then ((lex_quoted.f k a0).bind fun bt121 => (if bt121.2 = 0 then (some (0, 0, 122)) else (some (3, bt121.2, 0)))) else ((lex_sign.f a0).bind fun t123 => (if t123 = 0 then (some (0, 0, 120)) else (some (5, t123, 0))))))))) else (none)
def lex_gap.l0 : Nat → ByteArray → Int → Option (Int)
  | 0, _, _ => none
  | k + 1, x0, x1 => if x1 < (x0.size : Int) then (if 0 ≤ x1 then ((strings_IndexByte.f (⟨#[32, 9, 10, 13]⟩ : ByteArray) (bt x0 x1)).bind fun t124 => (if t124 ≥ 0 then (lex_gap.l0 k x0 (wrap64 (x1 + 1))) else (if x1 ≤ (x0.size : Int) then ((strings_HasPrefix.f (x0.extract (x1 : Int).toNat x0.size) (⟨#[47, 47]⟩ : ByteArray)).bind fun t125 => (if t125 = true then ((lex_run.f x0 x1 56).bind fun t126 => (lex_gap.l0 k x0 (wrap64 (x1 + t126)))) else (some x1))) else (none)))) else (none)) else (some x1)
def lex_gap.f (k : Nat) (a0 : ByteArray) (a1 : Int) : Option (Int) := lex_gap.l0 k a0 a1
def lex_Next.f (k : Nat) (a0 : ByteArray) (a1 : Int) : Option (Int × Int × Int × Int) := if (a0.size : Int) > 65536 then (some (0, 0, 0, 3)) else (if a1 < 0 then (some (0, 0, 0, 1)) else (if a1 > (a0.size : Int) then (some (0, 0, 0, 1)) else ((lex_gap.f k a0 a1).bind fun t128 => (if t128 = (a0.size : Int) then (some (0, t128, t128, 0)) else (if 0 ≤ t128 then (if t128 ≤ (a0.size : Int) then ((lex_token.f k (a0.extract (t128 : Int).toNat a0.size)).bind fun bt129 => (if bt129.2.2 = 0 then (some (bt129.1, t128, wrap64 (t128 + bt129.2.1), 0)) else (some (0, t128, 0, bt129.2.2)))) else (none)) else (none))))))
def lex_Text.f (k : Nat) (a0 : ByteArray) : Option (ByteArray × Int) := (lex_quoted.f k a0).bind fun bt132 => (if bt132.2 = 0 then (some ((⟨#[]⟩ : ByteArray), 122)) else (if bt132.2 = (a0.size : Int) then (some (bt132.1, 0)) else (some ((⟨#[]⟩ : ByteArray), 122))))
def IsS53 (w0 W : World) (g : Nat) (f0 : ByteArray) (f1 : Int) : Prop := W.heap[g]? = some (.cells #[.string f0, .int .i64 f1] 53 (0, 0)) ∧ w0.heap.size ≤ g
theorem IsS53.grown {w0 W : World} {g : Nat} {f0 : ByteArray} {f1 : Int} {W1 : World} {row : Option Nat} (h : IsS53 w0 W g f0 f1) (hw : W.grownBy W1 row) (hne : some g ≠ row) : IsS53 w0 W1 g f0 f1 := by
  obtain ⟨hb, hg⟩ := h
  exact ⟨blk_grown hb hw hne, hg⟩
theorem IsS53.kept {w0 W : World} {g : Nat} {f0 : ByteArray} {f1 : Int} {W1 : World} {S : Nat → Prop} (h : IsS53 w0 W g f0 f1) (hk : Kept W W1 S) (hne : ¬ S g) : IsS53 w0 W1 g f0 f1 := by
  obtain ⟨hb, hg⟩ := h
  exact ⟨blk_kept hb hk hne, hg⟩
theorem IsS53.below {w0 W : World} {g : Nat} {f0 : ByteArray} {f1 : Int} {W1 : World} (h : IsS53 w0 W g f0 f1) (hw : Below W.heap.size W W1) : IsS53 w0 W1 g f0 f1 := h.grown (grown_of_below hw none) (by simp)
theorem IsS53.alloc {w0 W : World} {g : Nat} {f0 : ByteArray} {f1 : Int} (h : IsS53 w0 W g f0 f1) (o : Obj) : IsS53 w0 (W.alloc o) g f0 f1 := h.below (below_alloc (Below.refl _ _) o)
theorem IsS53.drewN {w0 W : World} {g : Nat} {f0 : ByteArray} {f1 : Int} (h : IsS53 w0 W g f0 f1) (m : Nat) : IsS53 w0 (W.drewN m) g f0 f1 := h
theorem IsS53.drew {w0 W : World} {g : Nat} {f0 : ByteArray} {f1 : Int} (h : IsS53 w0 W g f0 f1) : IsS53 w0 W.drew g f0 f1 := h
theorem IsS53.at_ {w0 W : World} {g : Nat} {f0 : ByteArray} {f1 : Int} {w' : World} {m : Nat} (hq : W.drewN m = w') (h : IsS53 w0 W g f0 f1) : IsS53 w0 w' g f0 f1 := by subst hq; exact IsS53.drewN h m
theorem IsS53.apart {w0 W : World} {g : Nat} {f0 : ByteArray} {f1 : Int} {α : Type} {d : Kd α} {e : Nat} {base : Nat} {ok : Nat → Prop} {v : Value} {xs : List α} (h : IsS53 w0 W g f0 f1) (ho : d.R e W base ok v xs) (ht : ∀ q, q ∈ e :: d.E → q ≠ 53) : d.R e W base (fun k => ok k ∧ k ≠ g) v xs := by
  obtain ⟨hb, hg⟩ := h
  exact Kd.R_types ho hb ht
theorem IsS53.own_ne {w0 W : World} {g : Nat} {f0 : ByteArray} {f1 : Int} {α : Type} {d : Kd α} {e : Nat} {base : Nat} {ok : Nat → Prop} {v : Value} {xs : List α} (h : IsS53 w0 W g f0 f1) (ho : d.R e W base ok v xs) (ht : e ≠ 53) : some g ≠ v.ownBlock := by
  obtain ⟨hb, hg⟩ := h
  exact Kd.R_ne ho hb ht
theorem IsS53.lt {w0 W : World} {g : Nat} {f0 : ByteArray} {f1 : Int} (h : IsS53 w0 W g f0 f1) : g < W.heap.size := by
  obtain ⟨hb, hg⟩ := h
  exact blk_lt hb
theorem IsS53.ge {w0 W : World} {g : Nat} {f0 : ByteArray} {f1 : Int} (h : IsS53 w0 W g f0 f1) : w0.heap.size ≤ g := by
  obtain ⟨hb, hg⟩ := h
  exact hg
theorem IsS53.far {w0 W : World} {g : Nat} {f0 : ByteArray} {f1 : Int} {p : Addr} (h : IsS53 w0 W g f0 f1) (hne : g ≠ p.block) (u : Value) : IsS53 w0 (W.setCell p u) g f0 f1 := by
  obtain ⟨hb, hg⟩ := h
  exact ⟨blk_far hb hne u, hg⟩
theorem cellS53_0 {W : World} {g : Nat} {f0 : ByteArray} {f1 : Int} (h : W.heap[g]? = some (.cells #[.string f0, .int .i64 f1] 53 (0, 0))) : W.cell? ⟨g, 0, none⟩ = some (.string f0) := (blk_cell h 0).trans rfl
theorem IsS53.set_0 {w0 W : World} {g : Nat} {f0 : ByteArray} {f1 : Int} (h : IsS53 w0 W g f0 f1) (x : ByteArray) : IsS53 w0 (W.setCell ⟨g, 0, none⟩ (.string x)) g x f1 := by
  obtain ⟨hb, hg⟩ := h
  exact ⟨by simpa using blk_set hb 0 (.string x), hg⟩
theorem cellS53_1 {W : World} {g : Nat} {f0 : ByteArray} {f1 : Int} (h : W.heap[g]? = some (.cells #[.string f0, .int .i64 f1] 53 (0, 0))) : W.cell? ⟨g, 1, none⟩ = some (.int .i64 f1) := (blk_cell h 1).trans rfl
theorem IsS53.set_1 {w0 W : World} {g : Nat} {f0 : ByteArray} {f1 : Int} (h : IsS53 w0 W g f0 f1) (x : Int) : IsS53 w0 (W.setCell ⟨g, 1, none⟩ (.int .i64 x)) g f0 x := by
  obtain ⟨hb, hg⟩ := h
  exact ⟨by simpa using blk_set hb 1 (.int .i64 x), hg⟩
def scan_reader_next.f (k : Nat) (s0_0 : ByteArray) (s0_1 : Int) : Option (Bool × Int × Int × Int × Int × Int × ByteArray × ByteArray × Int) := (lex_Next.f k s0_0 s0_1).bind fun bt135 => (if bt135.2.2.2 = 0 then (if 0 ≤ bt135.2.1 then (if bt135.2.1 ≤ bt135.2.2.1 then (if bt135.2.2.1 ≤ (s0_0.size : Int) then (some (false, 0, 0, bt135.1, bt135.2.1, bt135.2.2.1, s0_0.extract (bt135.2.1 : Int).toNat (bt135.2.2.1 : Int).toNat, s0_0, bt135.2.2.1)) else (none)) else (none)) else (none)) else (some (true, bt135.2.2.2, bt135.2.1, 0, 0, 0, (⟨#[]⟩ : ByteArray), s0_0, s0_1)))
def scan_reader_want.f (k : Nat) (s0_0 : ByteArray) (s0_1 : Int) (a1 : Int) (a2 : ByteArray) : Option (Bool × Int × Int × ByteArray × ByteArray × Int) := (scan_reader_next.f k s0_0 s0_1).bind fun bt140 => (if bt140.1 = true then (some (true, bt140.2.1, bt140.2.2.1, (⟨#[]⟩ : ByteArray), bt140.2.2.2.2.2.2.2.1, bt140.2.2.2.2.2.2.2.2)) else (if bt140.2.2.2.1 = a1 then (if a2.toList = ([] : List UInt8) then (some (false, 0, 0, bt140.2.2.2.2.2.2.1, bt140.2.2.2.2.2.2.2.1, bt140.2.2.2.2.2.2.2.2)) else (if bt140.2.2.2.2.2.2.1.toList = a2.toList then (some (false, 0, 0, bt140.2.2.2.2.2.2.1, bt140.2.2.2.2.2.2.2.1, bt140.2.2.2.2.2.2.2.2)) else (some (true, 130, bt140.2.2.2.2.1, (⟨#[]⟩ : ByteArray), bt140.2.2.2.2.2.2.2.1, bt140.2.2.2.2.2.2.2.2)))) else (some (true, 130, bt140.2.2.2.2.1, (⟨#[]⟩ : ByteArray), bt140.2.2.2.2.2.2.2.1, bt140.2.2.2.2.2.2.2.2))))
def scan_reader_include.j0 : Nat → Bool → ByteArray → Int → Int → Int → Int → Option (Bool × Int × Int × ByteArray × ByteArray × Int × Bool × ByteArray × Int)
  | 0, _, _, _, _, _, _ => none
  | k + 1, x37, x1000, x1001, x156000, x156001, x156002 => if x37 = true then (some (false, 0, 0, (⟨#[]⟩ : ByteArray), (⟨#[]⟩ : ByteArray), 0, false, x1000, x1001)) else ((scan_reader_want.f k x1000 x156002 3 (⟨#[]⟩ : ByteArray)).bind fun bt157 => (if bt157.1 = true then (some (true, bt157.2.1, bt157.2.2.1, (⟨#[]⟩ : ByteArray), (⟨#[]⟩ : ByteArray), 0, false, bt157.2.2.2.2.1, bt157.2.2.2.2.2)) else ((lex_Text.f k bt157.2.2.2.1).bind fun bt163 => ((scan_reader_want.f k bt157.2.2.2.2.1 bt157.2.2.2.2.2 4 (⟨#[97, 115]⟩ : ByteArray)).bind fun bt165 => (if bt165.1 = true then (some (true, bt165.2.1, bt165.2.2.1, (⟨#[]⟩ : ByteArray), (⟨#[]⟩ : ByteArray), 0, false, bt165.2.2.2.2.1, bt165.2.2.2.2.2)) else ((scan_reader_want.f k bt165.2.2.2.2.1 bt165.2.2.2.2.2 1 (⟨#[]⟩ : ByteArray)).bind fun bt171 => (if bt171.1 = true then (some (true, bt171.2.1, bt171.2.2.1, (⟨#[]⟩ : ByteArray), (⟨#[]⟩ : ByteArray), 0, false, bt171.2.2.2.2.1, bt171.2.2.2.2.2)) else ((scan_reader_want.f k bt171.2.2.2.2.1 bt171.2.2.2.2.2 5 (⟨#[59]⟩ : ByteArray)).bind fun bt177 => (if bt177.1 = true then (some (true, bt177.2.1, bt177.2.2.1, (⟨#[]⟩ : ByteArray), (⟨#[]⟩ : ByteArray), 0, false, bt177.2.2.2.2.1, bt177.2.2.2.2.2)) else (some (false, 0, 0, bt163.1, bt171.2.2.2.1, x156001, true, bt177.2.2.2.2.1, bt177.2.2.2.2.2)))))))))))
def scan_reader_include.f (k : Nat) (s0_0 : ByteArray) (s0_1 : Int) : Option (Bool × Int × Int × ByteArray × ByteArray × Int × Bool × ByteArray × Int) := (lex_Next.f k s0_0 s0_1).bind fun bt151 => (if bt151.2.2.2 = 0 then (if bt151.1 = 4 then (if 0 ≤ bt151.2.1 then (if bt151.2.1 ≤ bt151.2.2.1 then (if bt151.2.2.1 ≤ (s0_0.size : Int) then (scan_reader_include.j0 k ((s0_0.extract (bt151.2.1 : Int).toNat (bt151.2.2.1 : Int).toNat).toList != ([105, 110, 99, 108, 117, 100, 101] : List UInt8)) s0_0 s0_1 bt151.1 bt151.2.1 bt151.2.2.1) else (none)) else (none)) else (none)) else (scan_reader_include.j0 k true s0_0 s0_1 bt151.1 bt151.2.1 bt151.2.2.1)) else (scan_reader_include.j0 k true s0_0 s0_1 bt151.1 bt151.2.1 bt151.2.2.1))
def scan_found.l0 : Nat → ByteArray → List S35 → Int → Option (List S35 × Int × Int × Int)
  | 0, _, _, _ => none
  | k + 1, s, l, i => (scan_reader_include.f k s i).bind fun t =>
      if t.1 = true then some (([] : List S35), 0, t.2.1, t.2.2.1)
      else if t.2.2.2.2.2.2.1 = true then (if l.length < 3518437208883 then scan_found.l0 k t.2.2.2.2.2.2.2.1 (l ++ [(⟨t.2.2.2.1, t.2.2.2.2.1, t.2.2.2.2.2.1⟩ : S35)]) t.2.2.2.2.2.2.2.2 else none)
      else some (l, t.2.2.2.2.2.2.2.2, 0, 0)
def scan_found.f (k : Nat) (a0 : ByteArray) : Option (List S35 × Int × Int × Int) := if (a0.size : Int) > 65536 then some (([] : List S35), 0, 3, 0) else scan_found.l0 k a0 ([] : List S35) 0
def scan_Includes.f (k : Nat) (a0 : ByteArray) : Option ((List (S35)) × Int × Int) := (scan_found.f k a0).bind fun bt184 => (some (bt184.1, bt184.2.2.1, bt184.2.2.2))
def treadleref12_Digit.f (a0 : Int) : Option (Bool) := if a0 ≥ 48 then (some (decide (a0 ≤ 57))) else (some false)
def treadleref12_half.f (a0 : Int) : Option (Int) := (treadleref12_Digit.f a0).bind fun t191 => (if t191 = true then (some ((a0 - 48) % 256)) else (if a0 ≥ 97 then (if a0 ≤ 102 then (some ((((a0 - 97) % 256) + 10) % 256)) else (some 16)) else (some 16)))
mutual
def treadleref12_piece.j0 : Nat → ByteArray → Int → Int → Bool → Option (Int × Int)
  | 0, _, _, _, _ => none
  | k + 1, x0, x1, x35, x40 => if x40 = true then (if 0 ≤ (wrap64 (x1 + 1)) then (if (wrap64 (x1 + 1)) < (x0.size : Int) then (some (bt x0 (wrap64 (x1 + 1)), 2)) else (none)) else (none)) else (if x35 = 120 then (if (wrap64 (x1 + 3)) < (x0.size : Int) then (if 0 ≤ (wrap64 (x1 + 2)) then (if (wrap64 (x1 + 2)) < (x0.size : Int) then ((treadleref12_half.f (bt x0 (wrap64 (x1 + 2)))).bind fun t192 => (if t192 < 16 then (if 0 ≤ (wrap64 (x1 + 3)) then ((treadleref12_half.f (bt x0 (wrap64 (x1 + 3)))).bind fun t193 => (treadleref12_piece.j1 k x0 x1 (decide (t193 < 16)))) else (none)) else (treadleref12_piece.j1 k x0 x1 false))) else (none)) else (none)) else (treadleref12_piece.j1 k x0 x1 false)) else (some (0, 0)))
def treadleref12_piece.j1 : Nat → ByteArray → Int → Bool → Option (Int × Int)
  | 0, _, _, _ => none
  | k + 1, x0, x1, x69 => if x69 = true then (if 0 ≤ (wrap64 (x1 + 2)) then (if (wrap64 (x1 + 2)) < (x0.size : Int) then ((treadleref12_half.f (bt x0 (wrap64 (x1 + 2)))).bind fun t194 => (if 0 ≤ (wrap64 (x1 + 3)) then (if (wrap64 (x1 + 3)) < (x0.size : Int) then ((treadleref12_half.f (bt x0 (wrap64 (x1 + 3)))).bind fun t195 => (some (Go.bits .or .u8 ((t194 * 16) % 256) t195, 4))) else (none)) else (none))) else (none)) else (none)) else (some (0, 0))
end
def treadleref12_piece.f (k : Nat) (a0 : ByteArray) (a1 : Int) : Option (Int × Int) := if a1 ≥ (a0.size : Int) then (some (0, 0)) else (if 0 ≤ a1 then (if a1 < (a0.size : Int) then (if (bt a0 a1) = 92 then (if (wrap64 (a1 + 1)) ≥ (a0.size : Int) then (some (0, 0)) else (if 0 ≤ (wrap64 (a1 + 1)) then (if (wrap64 (a1 + 1)) < (a0.size : Int) then (if (bt a0 (wrap64 (a1 + 1))) = 110 then (some (10, 2)) else (if (bt a0 (wrap64 (a1 + 1))) = 116 then (some (9, 2)) else (if (bt a0 (wrap64 (a1 + 1))) = 34 then (treadleref12_piece.j0 k a0 a1 (bt a0 (wrap64 (a1 + 1))) ((bt a0 (wrap64 (a1 + 1))) == 34)) else (treadleref12_piece.j0 k a0 a1 (bt a0 (wrap64 (a1 + 1))) ((bt a0 (wrap64 (a1 + 1))) == 92))))) else (none)) else (none))) else (if (bt a0 a1) < 32 then (some (0, 0)) else (if (bt a0 a1) > 126 then (some (0, 0)) else (if (bt a0 a1) = 34 then (some (0, 0)) else (some (bt a0 a1, 1)))))) else (none)) else (none))
mutual
def treadleref12_quoted.l0 : Nat → ByteArray → List Int → Int → Option (ByteArray × Int)
  | 0, _, _, _ => none
  | k + 1, x0, x6, x7 => if x7 < (x0.size : Int) then (if 0 ≤ x7 then (treadleref12_quoted.j1 k x0 x6 x7 ((bt x0 x7) == 34)) else (none)) else (treadleref12_quoted.j1 k x0 x6 x7 false)
def treadleref12_quoted.j1 : Nat → ByteArray → List Int → Int → Bool → Option (ByteArray × Int)
  | 0, _, _, _, _ => none
  | k + 1, x0, x6, x7, x21 => if x21 = true then (if (x6.length : Int) > 4096 then (some ((⟨#[]⟩ : ByteArray), (-1))) else (some (strOfNums x6, wrap64 (x7 + 1)))) else ((treadleref12_piece.f k x0 x7).bind fun bt196 => (if bt196.2 = 0 then (some ((⟨#[]⟩ : ByteArray), (-1))) else (if x6.length < 140737488355328 then (treadleref12_quoted.l0 k x0 (x6 ++ [bt196.1]) (wrap64 (x7 + bt196.2))) else (none))))
end
def treadleref12_quoted.f (k : Nat) (a0 : ByteArray) (a1 : Int) : Option (ByteArray × Int) := treadleref12_quoted.l0 k a0 ([] : List Int) (wrap64 (a1 + 1))
def treadleref12_among.l0 : Nat → List ByteArray → ByteArray → Int → Option (Bool)
  | 0, _, _, _ => none
  | k + 1, x0, x1, x5 => if x5 < (x0.length : Int) then (if 0 ≤ x5 then (if (rdOf ByteArray.empty x0 x5).toList = x1.toList then (some true) else (treadleref12_among.l0 k x0 x1 (wrap64 (x5 + 1)))) else (none)) else (some false)
def treadleref12_among.f (k : Nat) (l0 : List ByteArray) (a1 : ByteArray) : Option (Bool) := treadleref12_among.l0 k l0 a1 0
def treadleref12_keys.f  : Option (List ByteArray) := some (([(⟨#[105, 110, 99, 108, 117, 100, 101]⟩ : ByteArray), (⟨#[97, 115]⟩ : ByteArray), (⟨#[101, 120, 112, 111, 114, 116]⟩ : ByteArray), (⟨#[99, 111, 110, 115, 116]⟩ : ByteArray), (⟨#[102, 117, 110, 99]⟩ : ByteArray), (⟨#[118, 97, 114]⟩ : ByteArray), (⟨#[105, 102]⟩ : ByteArray), (⟨#[101, 108, 115, 101]⟩ : ByteArray), (⟨#[119, 104, 105, 108, 101]⟩ : ByteArray), (⟨#[114, 101, 116, 117, 114, 110]⟩ : ByteArray), (⟨#[112, 114, 105, 110, 116]⟩ : ByteArray), (⟨#[116, 114, 117, 101]⟩ : ByteArray), (⟨#[102, 97, 108, 115, 101]⟩ : ByteArray), (⟨#[105, 110, 116]⟩ : ByteArray), (⟨#[98, 111, 111, 108]⟩ : ByteArray), (⟨#[116, 101, 120, 116]⟩ : ByteArray)] : List ByteArray))
def treadleref12_Key.f (k : Nat) (a0 : ByteArray) : Option (Bool) := (treadleref12_keys.f).bind fun t205 => ((treadleref12_among.f k t205 a0).bind fun t208 => (some t208))
def treadleref12_Letter.f (a0 : Int) : Option (Bool) := if a0 = 95 then (some true) else (if a0 ≥ 97 then (if a0 ≤ 122 then (some true) else (if a0 ≥ 65 then (some (decide (a0 ≤ 90))) else (some false))) else (if a0 ≥ 65 then (some (decide (a0 ≤ 90))) else (some false)))
mutual
def treadleref12_Number.j0 : Nat → ByteArray → Bool → Option (Int × Int)
  | 0, _, _ => none
  | k + 1, x0, x19 => if x19 = true then (some (0, 121)) else (treadleref12_Number.l0 k x0 0 0)
def treadleref12_Number.l0 : Nat → ByteArray → Int → Int → Option (Int × Int)
  | 0, _, _, _ => none
  | k + 1, x0, x4, x5 => if x5 < (x0.size : Int) then (if 0 ≤ x5 then ((treadleref12_Digit.f (bt x0 x5)).bind fun t209 => (if t209 = true then (if x4 > ((9223372036854775807 - (((bt x0 x5) - 48) % 256)) / 10) then (some (0, 121)) else (treadleref12_Number.l0 k x0 (IntKind.u64.wrap ((IntKind.u64.wrap (10 * x4)) + (((bt x0 x5) - 48) % 256))) (wrap64 (x5 + 1)))) else (some (0, 121)))) else (none)) else (some (wrap64 (x4), 0))
end
def treadleref12_Number.f (k : Nat) (a0 : ByteArray) : Option (Int × Int) := if (a0.size : Int) = 0 then (treadleref12_Number.j0 k a0 true) else (if (a0.size : Int) > 1 then (if 0 < (a0.size : Int) then (treadleref12_Number.j0 k a0 ((bt a0 0) == 48)) else (none)) else (treadleref12_Number.j0 k a0 false))
def treadleref12_sign.j0 : Nat → ByteArray → Int → Bool → Option (Int)
  | 0, _, _, _ => none
  | k + 1, x0, x1, x18 => if x18 = true then (some 2) else (if 0 ≤ x1 then (if x1 ≤ (wrap64 (x1 + 1)) then (if (wrap64 (x1 + 1)) ≤ (x0.size : Int) then ((treadleref12_among.f k (([(⟨#[40]⟩ : ByteArray), (⟨#[41]⟩ : ByteArray), (⟨#[123]⟩ : ByteArray), (⟨#[125]⟩ : ByteArray), (⟨#[44]⟩ : ByteArray), (⟨#[59]⟩ : ByteArray), (⟨#[58]⟩ : ByteArray), (⟨#[46]⟩ : ByteArray), (⟨#[61]⟩ : ByteArray), (⟨#[60]⟩ : ByteArray), (⟨#[62]⟩ : ByteArray), (⟨#[43]⟩ : ByteArray), (⟨#[45]⟩ : ByteArray), (⟨#[42]⟩ : ByteArray), (⟨#[47]⟩ : ByteArray), (⟨#[37]⟩ : ByteArray), (⟨#[33]⟩ : ByteArray), (⟨#[35]⟩ : ByteArray)] : List ByteArray)) (x0.extract (x1 : Int).toNat ((wrap64 (x1 + 1)) : Int).toNat)).bind fun t217 => (if t217 = true then (some 1) else (some 0))) else (none)) else (none)) else (none))
def treadleref12_sign.f (k : Nat) (a0 : ByteArray) (a1 : Int) : Option (Int) := if (wrap64 (a1 + 2)) ≤ (a0.size : Int) then (if 0 ≤ a1 then (if a1 ≤ (wrap64 (a1 + 2)) then ((treadleref12_among.f k (([(⟨#[61, 61]⟩ : ByteArray), (⟨#[33, 61]⟩ : ByteArray), (⟨#[60, 61]⟩ : ByteArray), (⟨#[62, 61]⟩ : ByteArray), (⟨#[43, 43]⟩ : ByteArray), (⟨#[38, 38]⟩ : ByteArray), (⟨#[124, 124]⟩ : ByteArray)] : List ByteArray)) (a0.extract (a1 : Int).toNat ((wrap64 (a1 + 2)) : Int).toNat)).bind fun t213 => (treadleref12_sign.j0 k a0 a1 t213)) else (none)) else (none)) else (treadleref12_sign.j0 k a0 a1 false)
mutual
def treadleref12_token.j1 : Nat → ByteArray → Int → Int → Option (Int × Int × Int × Int)
  | 0, _, _, _ => none
  | k + 1, x0, x1, x6 => if (wrap64 (x6 - x1)) > 32 then (some (0, x1, 0, 123)) else (if 0 ≤ x1 then (if x1 ≤ x6 then (if x6 ≤ (x0.size : Int) then ((treadleref12_Key.f k (x0.extract (x1 : Int).toNat (x6 : Int).toNat)).bind fun t222 => (if t222 = true then (some (4, x1, x6, 0)) else (some (1, x1, x6, 0)))) else (none)) else (none)) else (none))
def treadleref12_token.l0 : Nat → ByteArray → Int → Int → Option (Int × Int × Int × Int)
  | 0, _, _, _ => none
  | k + 1, x0, x1, x6 => if x6 < (x0.size : Int) then (if 0 ≤ x6 then ((treadleref12_Letter.f (bt x0 x6)).bind fun t220 => (if t220 = true then (treadleref12_token.l0 k x0 x1 (wrap64 (x6 + 1))) else ((treadleref12_Digit.f (bt x0 x6)).bind fun t221 => (if t221 = true then (treadleref12_token.l0 k x0 x1 (wrap64 (x6 + 1))) else (treadleref12_token.j1 k x0 x1 x6))))) else (none)) else (treadleref12_token.j1 k x0 x1 x6)
def treadleref12_token.j3 : Nat → ByteArray → Int → Int → Option (Int × Int × Int × Int)
  | 0, _, _, _ => none
  | k + 1, x0, x1, x6 => if 0 ≤ x1 then (if x1 ≤ x6 then (if x6 ≤ (x0.size : Int) then ((treadleref12_Number.f k (x0.extract (x1 : Int).toNat (x6 : Int).toNat)).bind fun bt225 => (if bt225.2 = 0 then (if x6 < (x0.size : Int) then (if 0 ≤ x6 then ((treadleref12_Letter.f (bt x0 x6)).bind fun t227 => (treadleref12_token.j4 k x1 x6 t227)) else (none)) else (treadleref12_token.j4 k x1 x6 false)) else (treadleref12_token.j4 k x1 x6 true))) else (none)) else (none)) else (none)
def treadleref12_token.j4 : Nat → Int → Int → Bool → Option (Int × Int × Int × Int)
  | 0, _, _, _ => none
  | k + 1, x1, x6, x98 => if x98 = true then (some (0, x1, 0, 121)) else (some (2, x1, x6, 0))
def treadleref12_token.l1 : Nat → ByteArray → Int → Int → Option (Int × Int × Int × Int)
  | 0, _, _, _ => none
  | k + 1, x0, x1, x6 => if x6 < (x0.size : Int) then (if 0 ≤ x6 then ((treadleref12_Digit.f (bt x0 x6)).bind fun t224 => (if t224 = true then (treadleref12_token.l1 k x0 x1 (wrap64 (x6 + 1))) else (treadleref12_token.j3 k x0 x1 x6))) else (none)) else (treadleref12_token.j3 k x0 x1 x6)
end
def treadleref12_token.f (k : Nat) (a0 : ByteArray) (a1 : Int) : Option (Int × Int × Int × Int) := if a1 = (a0.size : Int) then (some (0, a1, a1, 0)) else (if 0 ≤ a1 then (if a1 < (a0.size : Int) then ((treadleref12_Letter.f (bt a0 a1)).bind fun t219 => (if t219 = true then (treadleref12_token.l0 k a0 a1 a1) else ((treadleref12_Digit.f (bt a0 a1)).bind fun t223 => (if t223 = true then (treadleref12_token.l1 k a0 a1 a1) else (if (bt a0 a1) = 34 then ((treadleref12_quoted.f k a0 a1).bind fun bt228 => (if bt228.2 < 0 then (some (0, a1, 0, 122)) else (some (3, a1, bt228.2, 0)))) else ((treadleref12_sign.f k a0 a1).bind fun t230 => (if t230 = 0 then (some (0, a1, 0, 120)) else (some (5, a1, wrap64 (a1 + t230), 0))))))))) else (none)) else (none))
mutual
def treadleref12_Gap.l0 : Nat → ByteArray → Int → Option (Int)
  | 0, _, _ => none
  | k + 1, x0, x1 => if x1 < (x0.size : Int) then (if 0 ≤ x1 then (if (bt x0 x1) = 32 then (treadleref12_Gap.j1 k x0 x1 (bt x0 x1) true) else (if (bt x0 x1) = 9 then (treadleref12_Gap.j1 k x0 x1 (bt x0 x1) true) else (if (bt x0 x1) = 10 then (treadleref12_Gap.j1 k x0 x1 (bt x0 x1) true) else (treadleref12_Gap.j1 k x0 x1 (bt x0 x1) ((bt x0 x1) == 13))))) else (none)) else (some x1)
def treadleref12_Gap.j1 : Nat → ByteArray → Int → Int → Bool → Option (Int)
  | 0, _, _, _, _ => none
  | k + 1, x0, x1, x5, x14 => if x14 = true then (treadleref12_Gap.l0 k x0 (wrap64 (x1 + 1))) else (if x5 = 47 then (if (wrap64 (x1 + 1)) < (x0.size : Int) then (if 0 ≤ (wrap64 (x1 + 1)) then (treadleref12_Gap.j2 k x0 x1 ((bt x0 (wrap64 (x1 + 1))) == 47)) else (none)) else (treadleref12_Gap.j2 k x0 x1 false)) else (treadleref12_Gap.j2 k x0 x1 false))
def treadleref12_Gap.j2 : Nat → ByteArray → Int → Bool → Option (Int)
  | 0, _, _, _ => none
  | k + 1, x0, x1, x31 => if x31 = true then (treadleref12_Gap.l1 k x0 x1) else (some x1)
def treadleref12_Gap.l1 : Nat → ByteArray → Int → Option (Int)
  | 0, _, _ => none
  | k + 1, x0, x1 => if x1 < (x0.size : Int) then (if 0 ≤ x1 then (if (bt x0 x1) = 10 then (treadleref12_Gap.l0 k x0 x1) else (treadleref12_Gap.l1 k x0 (wrap64 (x1 + 1)))) else (none)) else (treadleref12_Gap.l0 k x0 x1)
end
def treadleref12_Gap.f (k : Nat) (a0 : ByteArray) (a1 : Int) : Option (Int) := treadleref12_Gap.l0 k a0 a1
def treadleref12_Next.j0 : Nat → ByteArray → Int → Bool → Option (Int × Int × Int × Int)
  | 0, _, _, _ => none
  | k + 1, x0, x1, x17 => if x17 = true then (some (0, 0, 0, 1)) else ((treadleref12_Gap.f k x0 x1).bind fun t232 => ((treadleref12_token.f k x0 t232).bind fun bt233 => (some (bt233.1, bt233.2.1, bt233.2.2.1, bt233.2.2.2))))
def treadleref12_Next.f (k : Nat) (a0 : ByteArray) (a1 : Int) : Option (Int × Int × Int × Int) := if (a0.size : Int) > 65536 then (some (0, 0, 0, 3)) else (if a1 < 0 then (treadleref12_Next.j0 k a0 a1 true) else (treadleref12_Next.j0 k a0 a1 (decide (a1 > (a0.size : Int)))))
def treadleref13_one.f (k : Nat) (a0 : ByteArray) (a1 : Int) : Option (ByteArray × Int × Int × Int) := (treadleref12_Next.f k a0 a1).bind fun bt237 => (if bt237.2.2.2 = 0 then (if 0 ≤ bt237.2.1 then (if bt237.2.1 ≤ bt237.2.2.1 then (if bt237.2.2.1 ≤ (a0.size : Int) then (some (a0.extract (bt237.2.1 : Int).toNat (bt237.2.2.1 : Int).toNat, bt237.2.2.1, 0, bt237.2.1)) else (none)) else (none)) else (none)) else (some ((⟨#[]⟩ : ByteArray), 0, bt237.2.2.2, bt237.2.1)))
def treadleref12_Text.j0 : Nat → ByteArray → Bool → Option (ByteArray × Int)
  | 0, _, _ => none
  | k + 1, x0, x13 => if x13 = true then (some ((⟨#[]⟩ : ByteArray), 122)) else ((treadleref12_quoted.f k x0 0).bind fun bt242 => (if bt242.2 = (x0.size : Int) then (some (bt242.1, 0)) else (some ((⟨#[]⟩ : ByteArray), 122))))
def treadleref12_Text.f (k : Nat) (a0 : ByteArray) : Option (ByteArray × Int) := if (a0.size : Int) = 0 then (treadleref12_Text.j0 k a0 true) else (if 0 < (a0.size : Int) then (treadleref12_Text.j0 k a0 ((bt a0 0) != 34)) else (none))
mutual
def treadleref12_name.j0 : Nat → ByteArray → Bool → Option (Bool)
  | 0, _, _ => none
  | k + 1, x0, x17 => if x17 = true then (some false) else (treadleref12_name.l0 k x0 0)
def treadleref12_name.l0 : Nat → ByteArray → Int → Option (Bool)
  | 0, _, _ => none
  | k + 1, x0, x3 => if x3 < (x0.size : Int) then (if 0 ≤ x3 then ((treadleref12_Letter.f (bt x0 x3)).bind fun t245 => (if t245 = true then (treadleref12_name.l0 k x0 (wrap64 (x3 + 1))) else ((treadleref12_Digit.f (bt x0 x3)).bind fun t246 => (if t246 = true then (treadleref12_name.l0 k x0 (wrap64 (x3 + 1))) else (some false))))) else (none)) else (some true)
end
def treadleref12_name.f (k : Nat) (a0 : ByteArray) : Option (Bool) := if (a0.size : Int) = 0 then (treadleref12_name.j0 k a0 true) else (if (a0.size : Int) > 32 then (treadleref12_name.j0 k a0 true) else (if 0 < (a0.size : Int) then ((treadleref12_Letter.f (bt a0 0)).bind fun t244 => (treadleref12_name.j0 k a0 (!t244))) else (none)))
def treadleref12_Word.f (k : Nat) (a0 : ByteArray) : Option (Bool) := (treadleref12_name.f k a0).bind fun t247 => (if t247 = true then ((treadleref12_Key.f k a0).bind fun t248 => (some (!t248))) else (some false))
def treadleref13_fits.f (k : Nat) (a0 : Int) (a1 : ByteArray) : Option (Bool) := if a0 = 1 then ((treadleref12_Text.f k a1).bind fun bt249 => (some (bt249.2 == 0))) else (if a0 = 2 then (some (a1.toList == ([97, 115] : List UInt8))) else (if a0 = 3 then ((treadleref12_Word.f k a1).bind fun t251 => (some t251)) else (some (a1.toList == ([59] : List UInt8)))))
mutual
def treadleref13_Includes.l0 : Nat → ByteArray → List (S35) → Int → Option ((List (S35)) × Int × Int × Int)
  | 0, _, _, _ => none
  | k + 1, x0, x6, x7 => (treadleref13_one.f k x0 x7).bind fun bt252 => (if bt252.2.2.1 = 0 then (treadleref13_Includes.j1 k x0 x6 x7 bt252.2.1 bt252.2.2.2 (bt252.1.toList != ([105, 110, 99, 108, 117, 100, 101] : List UInt8))) else (treadleref13_Includes.j1 k x0 x6 x7 bt252.2.1 bt252.2.2.2 true))
def treadleref13_Includes.j1 : Nat → ByteArray → List (S35) → Int → Int → Int → Bool → Option ((List (S35)) × Int × Int × Int)
  | 0, _, _, _, _, _, _ => none
  | k + 1, x0, x6, x7, x9, x11, x34 => if x34 = true then (some (x6, x7, 0, 0)) else (treadleref13_Includes.l1 k x0 x6 x9 1 (⟨#[]⟩ : ByteArray) (⟨#[]⟩ : ByteArray) x11)
def treadleref13_Includes.l1 : Nat → ByteArray → List (S35) → Int → Int → ByteArray → ByteArray → Int → Option ((List (S35)) × Int × Int × Int)
  | 0, _, _, _, _, _, _, _ => none
  | k + 1, x0, x6, x9, x13, x257000, x257001, x257002 => if x13 ≤ 4 then ((treadleref13_one.f k x0 x9).bind fun bt260 => (if bt260.2.2.1 = 0 then ((treadleref13_fits.f k x13 bt260.1).bind fun t264 => (treadleref13_Includes.j3 k x0 x6 x13 bt260.1 bt260.2.1 bt260.2.2.1 bt260.2.2.2 (!t264) x257000 x257001 x257002)) else (treadleref13_Includes.j3 k x0 x6 x13 bt260.1 bt260.2.1 bt260.2.2.1 bt260.2.2.2 false x257000 x257001 x257002))) else (if x6.length < 3518437208883 then (treadleref13_Includes.l0 k x0 (x6 ++ [(⟨x257000, x257001, x257002⟩ : S35)]) x9) else (none))
def treadleref13_Includes.j3 : Nat → ByteArray → List (S35) → Int → ByteArray → Int → Int → Int → Bool → ByteArray → ByteArray → Int → Option ((List (S35)) × Int × Int × Int)
  | 0, _, _, _, _, _, _, _, _, _, _, _ => none
  | k + 1, x0, x6, x13, x14, x15, x16, x17, x58, x257000, x257001, x257002 => if x58 = true then (treadleref13_Includes.j4 k x0 x6 x13 x14 x15 130 x17 x257000 x257001 x257002) else (treadleref13_Includes.j4 k x0 x6 x13 x14 x15 x16 x17 x257000 x257001 x257002)
def treadleref13_Includes.j4 : Nat → ByteArray → List (S35) → Int → ByteArray → Int → Int → Int → ByteArray → ByteArray → Int → Option ((List (S35)) × Int × Int × Int)
  | 0, _, _, _, _, _, _, _, _, _, _ => none
  | k + 1, x0, x6, x13, x14, x15, x16, x17, x257000, x257001, x257002 => if x16 = 0 then (if x13 = 1 then ((treadleref12_Text.f k x14).bind fun bt265 => (if x13 = 3 then (treadleref13_Includes.l1 k x0 x6 x15 (wrap64 (x13 + 1)) bt265.1 x14 x257002) else (treadleref13_Includes.l1 k x0 x6 x15 (wrap64 (x13 + 1)) bt265.1 x257001 x257002))) else (if x13 = 3 then (treadleref13_Includes.l1 k x0 x6 x15 (wrap64 (x13 + 1)) x257000 x14 x257002) else (treadleref13_Includes.l1 k x0 x6 x15 (wrap64 (x13 + 1)) x257000 x257001 x257002))) else (some (([] : List (S35)), 0, x16, x17))
end
def treadleref13_Includes.f (k : Nat) (a0 : ByteArray) : Option ((List (S35)) × Int × Int × Int) := if (a0.size : Int) > 65536 then (some (([] : List (S35)), 0, 3, 0)) else (treadleref13_Includes.l0 k a0 ([] : List (S35)) 0)
def treadleref13_Same.l0 : Nat → List (S35) → List (S35) → Bool → Int → Option (Bool)
  | 0, _, _, _, _ => none
  | k + 1, x0, x1, x2, x7 => if x7 < (x0.length : Int) then (if 0 ≤ x7 then (if x7 < (x1.length : Int) then (if ((rd_T35 x0 x7).f0).toList = ((rd_T35 x1 x7).f0).toList then (if ((rd_T35 x0 x7).f1).toList = ((rd_T35 x1 x7).f1).toList then (if x2 = true then (if ((rd_T35 x0 x7).f2) = ((rd_T35 x1 x7).f2) then (treadleref13_Same.l0 k x0 x1 x2 (wrap64 (x7 + 1))) else (some false)) else (treadleref13_Same.l0 k x0 x1 x2 (wrap64 (x7 + 1)))) else (some false)) else (some false)) else (none)) else (none)) else (some true)
def treadleref13_Same.f (k : Nat) (l0 : List (S35)) (l1 : List (S35)) (a2 : Bool) : Option (Bool) := if (l0.length : Int) = (l1.length : Int) then (treadleref13_Same.l0 k l0 l1 a2 0) else (some false)
def scan_Head.f (k : Nat) (a0 : ByteArray) : Option (Int) := (scan_found.f k a0).bind fun bt273 => (some bt273.2.1)
def scan_Names.l0 : Nat → List ByteArray → List (S35) → Int → Int → Option (List ByteArray)
  | 0, _, _, _, _ => none
  | k + 1, x3, x6, x7, x8 => if x8 < x7 then (if 0 ≤ x8 then (if x8 < (x6.length : Int) then (if x3.length < 8796093022208 then (scan_Names.l0 k (x3 ++ [(rd_T35 x6 x8).f1]) x6 x7 (wrap64 (x8 + 1))) else (none)) else (none)) else (none)) else (some x3)
def scan_Names.f (k : Nat) (l0 : List (S35)) : Option (List ByteArray) := scan_Names.l0 k ([] : List ByteArray) l0 (l0.length : Int) 0
def treadlelaw13_alive.f (k : Nat)  : Option (Bool) := (scan_Includes.f k (⟨#[105, 110, 99, 108, 117, 100, 101, 32, 34, 97, 46, 109, 34, 32, 97, 115, 32, 97, 59, 32, 99, 111, 110, 115, 116]⟩ : ByteArray)).bind fun bt285 => (if (bt285.2.1 == 0 && (bt285.2.2 == 0)) = true then (if (bt285.1.length : Int) = 1 then (if 0 < (bt285.1.length : Int) then (if ((((rd_T35 bt285.1 0).f0).toList) == ([97, 46, 109] : List UInt8) && ((((rd_T35 bt285.1 0).f1).toList) == ([97] : List UInt8) && (((rd_T35 bt285.1 0).f2) == 0))) = true then ((scan_Head.f k (⟨#[105, 110, 99, 108, 117, 100, 101, 32, 34, 97, 34, 32, 97, 115, 32, 97, 59]⟩ : ByteArray)).bind fun t292 => (some (t292 == 17))) else (some false)) else (none)) else (some false)) else (some false))
mutual
def treadlelaw13_ScanFinds.j0 : Nat → List (S35) → List (S35) → Bool → Option (Bool)
  | 0, _, _, _ => none
  | k + 1, x3, x5, x44 => if x44 = true then (some false) else ((scan_Names.f k x3).bind fun t307 => (if (t307.length : Int) = (x5.length : Int) then (treadlelaw13_ScanFinds.l0 k x5 t307 (t307.length : Int) 0) else (some false)))
def treadlelaw13_ScanFinds.l0 : Nat → List (S35) → List ByteArray → Int → Int → Option (Bool)
  | 0, _, _, _, _ => none
  | k + 1, x5, x9, x53, x54 => if x54 < x53 then (if 0 ≤ x54 then (if x54 < (x9.length : Int) then (if x54 < (x5.length : Int) then (if (rdOf ByteArray.empty x9 x54).toList = ((rd_T35 x5 x54).f1).toList then (treadlelaw13_ScanFinds.l0 k x5 x9 x53 (wrap64 (x54 + 1))) else (some false)) else (none)) else (none)) else (none)) else ((treadlelaw13_alive.f k).bind fun t312 => (some t312))
end
def treadlelaw13_ScanFinds.f (k : Nat) (a0 : ByteArray) : Option (Bool) := (scan_Includes.f k a0).bind fun bt293 => ((treadleref13_Includes.f k a0).bind fun bt299 => ((treadleref13_Same.f k bt293.1 bt299.1 true).bind fun t305 => (if t305 = true then (if bt293.2.1 = bt299.2.2.1 then (if bt293.2.2 = bt299.2.2.2 then ((scan_Head.f k a0).bind fun t306 => (treadlelaw13_ScanFinds.j0 k bt293.1 bt299.1 (t306 != bt299.2.1))) else (treadlelaw13_ScanFinds.j0 k bt293.1 bt299.1 true)) else (treadlelaw13_ScanFinds.j0 k bt293.1 bt299.1 true)) else (treadlelaw13_ScanFinds.j0 k bt293.1 bt299.1 true))))
mutual
def lex_Quote.l0 : Nat → ByteArray → List Int → Int → Int → Option (ByteArray × Int)
  | 0, _, _, _, _ => none
  | k + 1, x0, x4, x12, x13 => if x13 < x12 then (if 0 ≤ x13 then (if x13 < (x0.size : Int) then (if (bt x0 x13) = 10 then ((some (([92, 110] : List Int) : List Int)).bind fun y319 => (if x4.length + y319.length < 140737488355328 then (lex_Quote.l0 k x0 (x4 ++ y319) x12 (wrap64 (x13 + 1))) else (none))) else (if (bt x0 x13) = 9 then ((some (([92, 116] : List Int) : List Int)).bind fun y325 => (if x4.length + y325.length < 140737488355328 then (lex_Quote.l0 k x0 (x4 ++ y325) x12 (wrap64 (x13 + 1))) else (none))) else (if (bt x0 x13) = 34 then (lex_Quote.j1 k x0 x4 (bt x0 x13) x12 x13 true) else (lex_Quote.j1 k x0 x4 (bt x0 x13) x12 x13 ((bt x0 x13) == 92))))) else (none)) else (none)) else (if x4.length < 140737488355328 then (some (strOfNums (x4 ++ [34]), 0)) else (none))
def lex_Quote.j1 : Nat → ByteArray → List Int → Int → Int → Int → Bool → Option (ByteArray × Int)
  | 0, _, _, _, _, _, _ => none
  | k + 1, x0, x4, x6, x12, x13, x35 => if x35 = true then ((some (([92, x6] : List Int) : List Int)).bind fun y331 => (if x4.length + y331.length < 140737488355328 then (lex_Quote.l0 k x0 (x4 ++ y331) x12 (wrap64 (x13 + 1))) else (none))) else (if x6 < 32 then (if 0 ≤ (x6 / 16) then (if (x6 / 16) < 16 then (if 0 ≤ (Go.bits .and .u8 x6 15) then (if (Go.bits .and .u8 x6 15) < 16 then ((some (([92, 120, bt (⟨#[48, 49, 50, 51, 52, 53, 54, 55, 56, 57, 97, 98, 99, 100, 101, 102]⟩ : ByteArray) (x6 / 16), bt (⟨#[48, 49, 50, 51, 52, 53, 54, 55, 56, 57, 97, 98, 99, 100, 101, 102]⟩ : ByteArray) (Go.bits .and .u8 x6 15)] : List Int) : List Int)).bind fun y337 => (if x4.length + y337.length < 140737488355328 then (lex_Quote.l0 k x0 (x4 ++ y337) x12 (wrap64 (x13 + 1))) else (none))) else (none)) else (none)) else (none)) else (none)) else (if x6 > 126 then (if 0 ≤ (x6 / 16) then (if (x6 / 16) < 16 then (if 0 ≤ (Go.bits .and .u8 x6 15) then (if (Go.bits .and .u8 x6 15) < 16 then ((some (([92, 120, bt (⟨#[48, 49, 50, 51, 52, 53, 54, 55, 56, 57, 97, 98, 99, 100, 101, 102]⟩ : ByteArray) (x6 / 16), bt (⟨#[48, 49, 50, 51, 52, 53, 54, 55, 56, 57, 97, 98, 99, 100, 101, 102]⟩ : ByteArray) (Go.bits .and .u8 x6 15)] : List Int) : List Int)).bind fun y343 => (if x4.length + y343.length < 140737488355328 then (lex_Quote.l0 k x0 (x4 ++ y343) x12 (wrap64 (x13 + 1))) else (none))) else (none)) else (none)) else (none)) else (none)) else (if x4.length < 140737488355328 then (lex_Quote.l0 k x0 (x4 ++ [x6]) x12 (wrap64 (x13 + 1))) else (none))))
end
def lex_Quote.f (k : Nat) (a0 : ByteArray) : Option (ByteArray × Int) := if (a0.size : Int) > 4096 then (some ((⟨#[]⟩ : ByteArray), 3)) else (lex_Quote.l0 k a0 (([34] : List Int)) (a0.size : Int) 0)
def lex_just.f (k : Nat) (a0 : ByteArray) (a1 : Int) : Option (Bool) := if a0.toList = ([] : List UInt8) then (some false) else ((lex_token.f k a0).bind fun bt352 => (if bt352.2.2 = 0 then (if bt352.1 = a1 then (some (bt352.2.1 == (a0.size : Int))) else (some false)) else (some false)))
def lex_Word.f (k : Nat) (a0 : ByteArray) : Option (Bool) := (lex_just.f k a0 1).bind fun t355 => (some t355)
mutual
def scan_With.l0 : Nat → ByteArray → Int → List Int → List (S35) → Int → Int → Option (ByteArray × Int)
  | 0, _, _, _, _, _, _ => none
  | k + 1, x0, x7, x9, x25, x26, x27 => if x27 < x26 then (if 0 ≤ x27 then (if x27 < (x25.length : Int) then ((lex_Quote.f k ((rd_T35 x25 x27).f0)).bind fun bt368 => (if bt368.2 = 0 then ((lex_Word.f k ((rd_T35 x25 x27).f1)).bind fun t370 => (scan_With.j1 k x0 x7 x9 bt368.1 x25 x26 x27 (!t370) ((rd_T35 x25 x27).f0) ((rd_T35 x25 x27).f1) ((rd_T35 x25 x27).f2))) else (scan_With.j1 k x0 x7 x9 bt368.1 x25 x26 x27 true ((rd_T35 x25 x27).f0) ((rd_T35 x25 x27).f1) ((rd_T35 x25 x27).f2)))) else (none)) else (none)) else (if 0 ≤ x7 then (if x7 ≤ (x0.size : Int) then (if x9.length + (x0.extract (x7 : Int).toNat x0.size).size < 140737488355328 then ((some (x9 ++ bytesOf (x0.extract (x7 : Int).toNat x0.size) : List Int)).bind fun y363 => (if (y363.length : Int) > 65536 then (some ((⟨#[]⟩ : ByteArray), 3)) else (some (strOfNums y363, 0)))) else (none)) else (none)) else (none))
def scan_With.j1 : Nat → ByteArray → Int → List Int → ByteArray → List (S35) → Int → Int → Bool → ByteArray → ByteArray → Int → Option (ByteArray × Int)
  | 0, _, _, _, _, _, _, _, _, _, _, _ => none
  | k + 1, x0, x7, x9, x12, x25, x26, x27, x44, x368000, x368001, x368002 => if x44 = true then (some ((⟨#[]⟩ : ByteArray), 1)) else (if (x9.length : Int) ≤ 65536 then (if 8 + x12.size ≤ 9223372036854775807 then (if ((⟨#[105, 110, 99, 108, 117, 100, 101, 32]⟩ : ByteArray) ++ x12).size + 4 ≤ 9223372036854775807 then (if (((⟨#[105, 110, 99, 108, 117, 100, 101, 32]⟩ : ByteArray) ++ x12) ++ (⟨#[32, 97, 115, 32]⟩ : ByteArray)).size + x368001.size ≤ 9223372036854775807 then (if ((((⟨#[105, 110, 99, 108, 117, 100, 101, 32]⟩ : ByteArray) ++ x12) ++ (⟨#[32, 97, 115, 32]⟩ : ByteArray)) ++ x368001).size + 2 ≤ 9223372036854775807 then (if x9.length + (((((⟨#[105, 110, 99, 108, 117, 100, 101, 32]⟩ : ByteArray) ++ x12) ++ (⟨#[32, 97, 115, 32]⟩ : ByteArray)) ++ x368001) ++ (⟨#[59, 10]⟩ : ByteArray)).size < 140737488355328 then (scan_With.l0 k x0 x7 (x9 ++ bytesOf (((((⟨#[105, 110, 99, 108, 117, 100, 101, 32]⟩ : ByteArray) ++ x12) ++ (⟨#[32, 97, 115, 32]⟩ : ByteArray)) ++ x368001) ++ (⟨#[59, 10]⟩ : ByteArray))) x25 x26 (wrap64 (x27 + 1))) else (none)) else (none)) else (none)) else (none)) else (none)) else (scan_With.l0 k x0 x7 x9 x25 x26 (wrap64 (x27 + 1))))
end
def scan_With.f (k : Nat) (a0 : ByteArray) (l1 : List (S35)) : Option (ByteArray × Int) := (scan_found.f k a0).bind fun bt356 => (if (!(bt356.2.2.1 == 0) || (!(bt356.2.2.2 == 0))) = true then (some ((⟨#[]⟩ : ByteArray), bt356.2.2.1)) else (scan_With.l0 k a0 bt356.2.1 ([] : List Int) l1 (l1.length : Int) 0))
def treadlelaw13_ScanBack.f (k : Nat) (a0 : ByteArray) (l1 : List (S35)) : Option (Bool) := (treadlelaw13_alive.f k).bind fun t430 => (if t430 = true then ((scan_With.f k a0 l1).bind fun bt431 => (if bt431.2 = 0 then ((scan_Includes.f k bt431.1).bind fun bt433 => ((scan_With.f k bt431.1 ([] : List (S35))).bind fun bt439 => ((scan_With.f k bt439.1 ([] : List (S35))).bind fun bt441 => ((scan_Includes.f k bt439.1).bind fun bt443 => (if (bt433.2.1 == 0 && (bt433.2.2 == 0)) = true then ((treadleref13_Same.f k bt433.1 l1 false).bind fun t449 => (if t449 = true then (if bt439.2 = 0 then (if bt441.2 = 0 then (if bt441.1.toList = bt439.1.toList then (if (bt443.1.length : Int) = 0 then (if (bt443.2.1 == 0 && (bt443.2.2 == 0)) = true then ((scan_Head.f k bt439.1).bind fun t450 => (if t450 = 0 then ((scan_Head.f k bt431.1).bind fun t451 => (some ((bt439.1.size : Int) == (wrap64 ((bt431.1.size : Int) - t451))))) else (some false))) else (some false)) else (some false)) else (some false)) else (some false)) else (some false)) else (some false))) else (some false)))))) else (some (bt431.1.toList == ([] : List UInt8))))) else (some false))
def treadlelaw13_ScanStops.j0 : Nat → List (S35) → ByteArray → ByteArray → Bool → Option (Bool)
  | 0, _, _, _, _ => none
  | k + 1, x0, x1, x5, x27 => if x27 = true then (some true) else ((scan_Includes.f k x5).bind fun bt455 => (if x5.size + x1.size ≤ 9223372036854775807 then ((scan_Includes.f k (x5 ++ x1)).bind fun bt461 => (if (bt455.2.1 == 0 && (bt455.2.2 == 0)) = true then (if (bt461.2.1 == 0 && (bt461.2.2 == 0)) = true then ((treadleref13_Same.f k bt455.1 bt461.1 true).bind fun t467 => (if t467 = true then ((treadleref13_Same.f k bt455.1 x0 false).bind fun t468 => (if t468 = true then ((scan_Head.f k (x5 ++ x1)).bind fun t469 => ((scan_Head.f k x5).bind fun t470 => (some (t469 == t470)))) else (some false))) else (some false))) else (some false)) else (some false))) else (none)))
def treadlelaw13_ScanStops.f (k : Nat) (l0 : List (S35)) (a1 : ByteArray) : Option (Bool) := (treadlelaw13_alive.f k).bind fun t452 => (if t452 = true then ((scan_With.f k (⟨#[99, 111, 110, 115, 116, 32]⟩ : ByteArray) l0).bind fun bt453 => (if bt453.2 = 0 then (treadlelaw13_ScanStops.j0 k l0 a1 bt453.1 (decide ((wrap64 ((bt453.1.size : Int) + (a1.size : Int))) > 65536))) else (treadlelaw13_ScanStops.j0 k l0 a1 bt453.1 true))) else (some false))
end Go.Proofs.YtifachjefpcgcaaDoor.P
