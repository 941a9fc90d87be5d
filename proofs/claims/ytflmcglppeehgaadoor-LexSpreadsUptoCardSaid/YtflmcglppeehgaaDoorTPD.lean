import Derived.Test.YtflmcglppeehgaaDoorTP0
namespace Go.Proofs.YtflmcglppeehgaaDoor.P
open Go.RowKit Go.Proofs.YtflmcglppeehgaaDoorW.PrintWords Go.Proofs.YtflmcglppeehgaaDoorW.PrintLast Go.Proofs.YtflmcglppeehgaaDoorW.PrintMore
attribute [local go_sem] max2_int min2_int max_two min_two max_three min_three max_four min_four
set_option linter.unusedVariables false
set_option linter.unusedSimpArgs false
def stringslite_IndexByte.f (a0 : ByteArray) (a1 : Int) : Option (Int) := some (Lib.indexByte a0.data.toList a1.toNat.toUInt8)
def strings_IndexByte.f (a0 : ByteArray) (a1 : Int) : Option (Int) := (stringslite_IndexByte.f a0 a1).bind fun t101 => (some t101)
def stringslite_HasPrefix.f (a0 : ByteArray) (a1 : ByteArray) : Option (Bool) := if (a0.size : Int) ≥ (a1.size : Int) then (if 0 ≤ (a1.size : Int) then (if (a1.size : Int) ≤ (a0.size : Int) then (some ((a0.extract 0 ((a1.size : Int) : Int).toNat).toList == a1.toList)) else (none)) else (none)) else (some false)
def strings_HasPrefix.f (a0 : ByteArray) (a1 : ByteArray) : Option (Bool) := (stringslite_HasPrefix.f a0 a1).bind fun t102 => (some t102)
def isLetter (c : Int) : Bool := decide (c = 95) || (decide (97 ≤ c) && decide (c ≤ 122)) || (decide (65 ≤ c) && decide (c ≤ 90))
def isDigit (c : Int) : Bool := decide (48 ≤ c) && decide (c ≤ 57)
def fnP (m : Nat) : Option (Int → Bool) :=
  if m = 51 then some (fun c => decide (c ≠ 10))
  else if m = 53 then some (fun c => isLetter c || isDigit c)
  else if m = 54 then some isDigit
  else none
def lex_run.f (a0 : ByteArray) (a1 : Int) (a2 : Nat) : Option (Int) :=
  if 0 ≤ a1 ∧ a1 ≤ a0.size ∧ a0.size ≤ 1099511627776 then (fnP a2).map (fun p => (((a0.data.toList.drop a1.toNat).takeWhile (fun c => p (c.toNat : Int))).length : Int)) else none
def lex_gap.l0 : Nat → ByteArray → Int → Option (Int)
  | 0, _, _ => none
  | k + 1, x0, x1 => if x1 < (x0.size : Int) then (if 0 ≤ x1 then ((strings_IndexByte.f (⟨#[32, 9, 10, 13]⟩ : ByteArray) (bt x0 x1)).bind fun t103 => (if t103 ≥ 0 then (lex_gap.l0 k x0 (wrap64 (x1 + 1))) else (if x1 ≤ (x0.size : Int) then ((strings_HasPrefix.f (x0.extract (x1 : Int).toNat x0.size) (⟨#[47, 47]⟩ : ByteArray)).bind fun t104 => (if t104 = true then ((lex_run.f x0 x1 51).bind fun t105 => (lex_gap.l0 k x0 (wrap64 (x1 + t105)))) else (some x1))) else (none)))) else (none)) else (some x1)
def lex_gap.f (k : Nat) (a0 : ByteArray) (a1 : Int) : Option (Int) := lex_gap.l0 k a0 a1
theorem lex_gap.mono_l : ∀ k, (∀ y0 y1, LeO (lex_gap.l0 k y0 y1) (lex_gap.l0 (k + 1) y0 y1))
  | 0 => fun _ _ r h => by simp [lex_gap.l0] at h
  | k + 1 => by
    have ih0 := lex_gap.mono_l k
    · intro y0 y1
      unfold lex_gap.l0
      repeat' first
      | (with_reducible exact ih0 _ _)
      | (with_reducible exact LeO.refl _)
      | (with_reducible exact LeO.none _)
      | (with_reducible refine LeO.ite ?_ ?_)
      | (with_reducible refine LeO.bind ?_ (fun _ => ?_))
      | exact ih0 _ _
      | exact LeO.none _
      | refine LeO.ite ?_ ?_
      | refine LeO.bind ?_ (fun _ => ?_)
theorem lex_gap.mono : ∀ a0 a1 k, LeO (lex_gap.f k a0 a1) (lex_gap.f (k + 1) a0 a1) := by
  intro a0 a1 k
  have ih0 := lex_gap.mono_l k
  unfold lex_gap.f
  repeat' first
      | (with_reducible exact ih0 _ _)
      | (with_reducible exact LeO.refl _)
      | (with_reducible exact LeO.none _)
      | (with_reducible refine LeO.ite ?_ ?_)
      | (with_reducible refine LeO.bind ?_ (fun _ => ?_))
      | exact ih0 _ _
      | exact LeO.none _
      | refine LeO.ite ?_ ?_
      | refine LeO.bind ?_ (fun _ => ?_)
def keyTexts : List (List UInt8) := [[105, 110, 99, 108, 117, 100, 101], [97, 115], [101, 120, 112, 111, 114, 116], [99, 111, 110, 115, 116], [102, 117, 110, 99], [118, 97, 114], [105, 102], [101, 108, 115, 101], [119, 104, 105, 108, 101], [114, 101, 116, 117, 114, 110], [112, 114, 105, 110, 116], [116, 114, 117, 101], [102, 97, 108, 115, 101], [105, 110, 116], [98, 111, 111, 108], [116, 101, 120, 116]]
def lex_Key.f (a0 : ByteArray) : Option (Bool) := some (decide (a0.data.toList ∈ keyTexts))
def lex_whole.f (a0 : ByteArray) : Option (Int × Bool) :=
  match a0.data.toList with
  | [] => none
  | c :: _ => if isDigit (c.toNat : Int) = true ∧ a0.size ≤ 1099511627776 then
      match Lib.parseIntB 64 a0.data.toList with
      | .ok v => some (v, decide (Lib.itoa v = a0.data.toList))
      | .range => some (9223372036854775807, false)
      | .syntax => none
    else none
def lex_digit.f (a0 : Int) : Option (Bool) := if a0 ≥ 48 then (some (decide (a0 ≤ 57))) else (some false)
def lex_nibble.f (a0 : Int) : Option (Int) := (lex_digit.f a0).bind fun t106 => (if t106 = true then (some ((a0 - 48) % 256)) else (if a0 ≥ 97 then (if a0 ≤ 102 then (some (((a0 - 97) % 256) + 10)) else (some (-1))) else (some (-1))))
mutual
def lex_piece.j0 : Nat → ByteArray → Bool → Option (Int × Int)
  | 0, _, _ => none
  | k + 1, x0, x4 => if x4 = true then (some (0, 0)) else (if 0 < (x0.size : Int) then (if (bt x0 0) = 92 then (if (x0.size : Int) < 2 then (some (0, 0)) else (if 1 < (x0.size : Int) then (if (bt x0 1) = 110 then (some (10, 2)) else (if (bt x0 1) = 116 then (some (9, 2)) else (if (bt x0 1) = 34 then (lex_piece.j1 k x0 (bt x0 1) ((bt x0 1) == 34)) else (lex_piece.j1 k x0 (bt x0 1) ((bt x0 1) == 92))))) else (none))) else (some (bt x0 0, 1))) else (none))
def lex_piece.j1 : Nat → ByteArray → Int → Bool → Option (Int × Int)
  | 0, _, _, _ => none
  | k + 1, x0, x33, x38 => if x38 = true then (if 1 < (x0.size : Int) then (some (bt x0 1, 2)) else (none)) else (if x33 = 120 then (if (x0.size : Int) ≥ 4 then (if 2 < (x0.size : Int) then ((lex_nibble.f (bt x0 2)).bind fun t107 => (if t107 ≥ 0 then (if 3 < (x0.size : Int) then ((lex_nibble.f (bt x0 3)).bind fun t108 => (lex_piece.j2 k x0 (decide (t108 ≥ 0)))) else (none)) else (lex_piece.j2 k x0 false))) else (none)) else (lex_piece.j2 k x0 false)) else (some (0, 0)))
def lex_piece.j2 : Nat → ByteArray → Bool → Option (Int × Int)
  | 0, _, _ => none
  | k + 1, x0, x59 => if x59 = true then (if 2 < (x0.size : Int) then ((lex_nibble.f (bt x0 2)).bind fun t109 => (if 3 < (x0.size : Int) then ((lex_nibble.f (bt x0 3)).bind fun t110 => (some ((Go.bits .or .i64 (wrap64 (t109 * 16)) t110) % 256, 4))) else (none))) else (none)) else (some (0, 0))
end
def lex_piece.f (k : Nat) (a0 : ByteArray) : Option (Int × Int) := if a0.toList = ([] : List UInt8) then (lex_piece.j0 k a0 true) else (if 0 < (a0.size : Int) then (if (bt a0 0) < 32 then (lex_piece.j0 k a0 true) else (if (bt a0 0) > 126 then (lex_piece.j0 k a0 true) else (lex_piece.j0 k a0 ((bt a0 0) == 34)))) else (none))
theorem lex_piece.mono_l : ∀ k, (∀ y0 y1, LeO (lex_piece.j0 k y0 y1) (lex_piece.j0 (k + 1) y0 y1)) ∧ (∀ y0 y1 y2, LeO (lex_piece.j1 k y0 y1 y2) (lex_piece.j1 (k + 1) y0 y1 y2)) ∧ (∀ y0 y1, LeO (lex_piece.j2 k y0 y1) (lex_piece.j2 (k + 1) y0 y1))
  | 0 => ⟨fun _ _ r h => by simp [lex_piece.j0] at h, fun _ _ _ r h => by simp [lex_piece.j1] at h, fun _ _ r h => by simp [lex_piece.j2] at h⟩
  | k + 1 => by
    obtain ⟨ih0, ih1, ih2⟩ := lex_piece.mono_l k
    refine ⟨?_, ?_, ?_⟩
    · intro y0 y1
      unfold lex_piece.j0
      repeat' first
      | (with_reducible exact ih0 _ _)
      | (with_reducible exact ih1 _ _ _)
      | (with_reducible exact ih2 _ _)
      | (with_reducible exact LeO.refl _)
      | (with_reducible exact LeO.none _)
      | (with_reducible refine LeO.ite ?_ ?_)
      | (with_reducible refine LeO.bind ?_ (fun _ => ?_))
      | exact ih0 _ _
      | exact ih1 _ _ _
      | exact ih2 _ _
      | exact LeO.none _
      | refine LeO.ite ?_ ?_
      | refine LeO.bind ?_ (fun _ => ?_)
    · intro y0 y1 y2
      unfold lex_piece.j1
      repeat' first
      | (with_reducible exact ih0 _ _)
      | (with_reducible exact ih1 _ _ _)
      | (with_reducible exact ih2 _ _)
      | (with_reducible exact LeO.refl _)
      | (with_reducible exact LeO.none _)
      | (with_reducible refine LeO.ite ?_ ?_)
      | (with_reducible refine LeO.bind ?_ (fun _ => ?_))
      | exact ih0 _ _
      | exact ih1 _ _ _
      | exact ih2 _ _
      | exact LeO.none _
      | refine LeO.ite ?_ ?_
      | refine LeO.bind ?_ (fun _ => ?_)
    · intro y0 y1
      unfold lex_piece.j2
      repeat' first
      | (with_reducible exact ih0 _ _)
      | (with_reducible exact ih1 _ _ _)
      | (with_reducible exact ih2 _ _)
      | (with_reducible exact LeO.refl _)
      | (with_reducible exact LeO.none _)
      | (with_reducible refine LeO.ite ?_ ?_)
      | (with_reducible refine LeO.bind ?_ (fun _ => ?_))
      | exact ih0 _ _
      | exact ih1 _ _ _
      | exact ih2 _ _
      | exact LeO.none _
      | refine LeO.ite ?_ ?_
      | refine LeO.bind ?_ (fun _ => ?_)
theorem lex_piece.mono : ∀ a0 k, LeO (lex_piece.f k a0) (lex_piece.f (k + 1) a0) := by
  intro a0 k
  obtain ⟨ih0, ih1, ih2⟩ := lex_piece.mono_l k
  unfold lex_piece.f
  repeat' first
      | (with_reducible exact ih0 _ _)
      | (with_reducible exact ih1 _ _ _)
      | (with_reducible exact ih2 _ _)
      | (with_reducible exact LeO.refl _)
      | (with_reducible exact LeO.none _)
      | (with_reducible refine LeO.ite ?_ ?_)
      | (with_reducible refine LeO.bind ?_ (fun _ => ?_))
      | exact ih0 _ _
      | exact ih1 _ _ _
      | exact ih2 _ _
      | exact LeO.none _
      | refine LeO.ite ?_ ?_
      | refine LeO.bind ?_ (fun _ => ?_)
mutual
def lex_quoted.j0 : Nat → ByteArray → Bool → Option (ByteArray × Int)
  | 0, _, _ => none
  | k + 1, x0, x14 => if x14 = true then (some ((⟨#[]⟩ : ByteArray), 0)) else (lex_quoted.l0 k x0 ([] : List Int) 1)
def lex_quoted.l0 : Nat → ByteArray → List Int → Int → Option (ByteArray × Int)
  | 0, _, _, _ => none
  | k + 1, x0, x4, x5 => if x5 < (x0.size : Int) then (if 0 ≤ x5 then (lex_quoted.j2 k x0 x4 x5 ((bt x0 x5) != 34)) else (none)) else (lex_quoted.j2 k x0 x4 x5 false)
def lex_quoted.j2 : Nat → ByteArray → List Int → Int → Bool → Option (ByteArray × Int)
  | 0, _, _, _, _ => none
  | k + 1, x0, x4, x5, x24 => if x24 = true then (if 0 ≤ x5 then (if x5 ≤ (x0.size : Int) then ((lex_piece.f k (x0.extract (x5 : Int).toNat x0.size)).bind fun bt111 => (if bt111.2 = 0 then (some ((⟨#[]⟩ : ByteArray), 0)) else (if (x4.length : Int) ≥ 4096 then (some ((⟨#[]⟩ : ByteArray), 0)) else (if x4.length < 140737488355328 then (lex_quoted.l0 k x0 (x4 ++ [bt111.1]) (wrap64 (x5 + bt111.2))) else (none))))) else (none)) else (none)) else (if x5 ≥ (x0.size : Int) then (some ((⟨#[]⟩ : ByteArray), 0)) else (some (strOfNums x4, wrap64 (x5 + 1))))
end
def lex_quoted.f (k : Nat) (a0 : ByteArray) : Option (ByteArray × Int) := if a0.toList = ([] : List UInt8) then (lex_quoted.j0 k a0 true) else (if 0 < (a0.size : Int) then (lex_quoted.j0 k a0 ((bt a0 0) != 34)) else (none))
theorem lex_quoted.mono_l : ∀ k, (∀ y0 y1, LeO (lex_quoted.j0 k y0 y1) (lex_quoted.j0 (k + 1) y0 y1)) ∧ (∀ y0 y1 y2, LeO (lex_quoted.l0 k y0 y1 y2) (lex_quoted.l0 (k + 1) y0 y1 y2)) ∧ (∀ y0 y1 y2 y3, LeO (lex_quoted.j2 k y0 y1 y2 y3) (lex_quoted.j2 (k + 1) y0 y1 y2 y3))
  | 0 => ⟨fun _ _ r h => by simp [lex_quoted.j0] at h, fun _ _ _ r h => by simp [lex_quoted.l0] at h, fun _ _ _ _ r h => by simp [lex_quoted.j2] at h⟩
  | k + 1 => by
    obtain ⟨ih0, ih1, ih2⟩ := lex_quoted.mono_l k
    refine ⟨?_, ?_, ?_⟩
    · intro y0 y1
      unfold lex_quoted.j0
      repeat' first
      | (with_reducible exact ih0 _ _)
      | (with_reducible exact ih1 _ _ _)
      | (with_reducible exact ih2 _ _ _ _)
      | (with_reducible exact lex_piece.mono _ _)
      | (with_reducible exact LeO.refl _)
      | (with_reducible exact LeO.none _)
      | (with_reducible refine LeO.ite ?_ ?_)
      | (with_reducible refine LeO.bind ?_ (fun _ => ?_))
      | exact ih0 _ _
      | exact ih1 _ _ _
      | exact ih2 _ _ _ _
      | exact lex_piece.mono _ _
      | exact LeO.none _
      | refine LeO.ite ?_ ?_
      | refine LeO.bind ?_ (fun _ => ?_)
    · intro y0 y1 y2
      unfold lex_quoted.l0
      repeat' first
      | (with_reducible exact ih0 _ _)
      | (with_reducible exact ih1 _ _ _)
      | (with_reducible exact ih2 _ _ _ _)
      | (with_reducible exact lex_piece.mono _ _)
      | (with_reducible exact LeO.refl _)
      | (with_reducible exact LeO.none _)
      | (with_reducible refine LeO.ite ?_ ?_)
      | (with_reducible refine LeO.bind ?_ (fun _ => ?_))
      | exact ih0 _ _
      | exact ih1 _ _ _
      | exact ih2 _ _ _ _
      | exact lex_piece.mono _ _
      | exact LeO.none _
      | refine LeO.ite ?_ ?_
      | refine LeO.bind ?_ (fun _ => ?_)
    · intro y0 y1 y2 y3
      unfold lex_quoted.j2
      repeat' first
      | (with_reducible exact ih0 _ _)
      | (with_reducible exact ih1 _ _ _)
      | (with_reducible exact ih2 _ _ _ _)
      | (with_reducible exact lex_piece.mono _ _)
      | (with_reducible exact LeO.refl _)
      | (with_reducible exact LeO.none _)
      | (with_reducible refine LeO.ite ?_ ?_)
      | (with_reducible refine LeO.bind ?_ (fun _ => ?_))
      | exact ih0 _ _
      | exact ih1 _ _ _
      | exact ih2 _ _ _ _
      | exact lex_piece.mono _ _
      | exact LeO.none _
      | refine LeO.ite ?_ ?_
      | refine LeO.bind ?_ (fun _ => ?_)
theorem lex_quoted.mono : ∀ a0 k, LeO (lex_quoted.f k a0) (lex_quoted.f (k + 1) a0) := by
  intro a0 k
  obtain ⟨ih0, ih1, ih2⟩ := lex_quoted.mono_l k
  unfold lex_quoted.f
  repeat' first
      | (with_reducible exact ih0 _ _)
      | (with_reducible exact ih1 _ _ _)
      | (with_reducible exact ih2 _ _ _ _)
      | (with_reducible exact lex_piece.mono _ _)
      | (with_reducible exact LeO.refl _)
      | (with_reducible exact LeO.none _)
      | (with_reducible refine LeO.ite ?_ ?_)
      | (with_reducible refine LeO.bind ?_ (fun _ => ?_))
      | exact ih0 _ _
      | exact ih1 _ _ _
      | exact ih2 _ _ _ _
      | exact lex_piece.mono _ _
      | exact LeO.none _
      | refine LeO.ite ?_ ?_
      | refine LeO.bind ?_ (fun _ => ?_)
def lex_letter.f (a0 : Int) : Option (Bool) := if a0 = 95 then (some true) else (if a0 ≥ 97 then (if a0 ≤ 122 then (some true) else (if a0 ≥ 65 then (some (decide (a0 ≤ 90))) else (some false))) else (if a0 ≥ 65 then (some (decide (a0 ≤ 90))) else (some false)))
def twoSigns : List (List UInt8) := [[61, 61], [33, 61], [60, 61], [62, 61], [43, 43], [38, 38], [124, 124]]
def oneSigns : List UInt8 := [40, 41, 123, 125, 44, 59, 58, 46, 61, 60, 62, 43, 45, 42, 47, 37, 33, 35]
def lex_sign.f (a0 : ByteArray) : Option (Int) := if twoSigns.any (fun t => decide (a0.data.toList.take 2 = t)) = true then some 2 else if a0.size = 0 then none else if Lib.indexByte oneSigns ((bt a0 0).toNat.toUInt8) ≥ 0 then some 1 else some 0
def lex_token.j0 : Nat → Int → Bool → Option (Int × Int × Int)
  | 0, _, _ => none
  | k + 1, x7, x53 => if x53 = true then (some (0, 0, 121)) else (some (2, x7, 0))
def lex_token.f (k : Nat) (a0 : ByteArray) : Option (Int × Int × Int) := if 0 < (a0.size : Int) then ((lex_letter.f (bt a0 0)).bind fun t116 => (if t116 = true then ((lex_run.f a0 0 53).bind fun t117 => (if t117 > 32 then (some (0, 0, 123)) else (if 0 ≤ t117 then (if t117 ≤ (a0.size : Int) then ((lex_Key.f (a0.extract 0 (t117 : Int).toNat)).bind fun t118 => (if t118 = true then (some (4, t117, 0)) else (some (1, t117, 0)))) else (none)) else (none)))) else ((lex_digit.f (bt a0 0)).bind fun t119 => (if t119 = true then ((lex_run.f a0 0 54).bind fun t120 => (if 0 ≤ t120 then (if t120 ≤ (a0.size : Int) then ((lex_whole.f (a0.extract 0 (t120 : Int).toNat)).bind fun bt121 => (if bt121.2 = true then (if t120 < (a0.size : Int) then ((lex_letter.f (bt a0 t120)).bind fun t123 => (lex_token.j0 k t120 t123)) else (lex_token.j0 k t120 false)) else (lex_token.j0 k t120 true))) else (none)) else (none))) else (if (bt a0 0) = 34 then ((lex_quoted.f k a0).bind fun bt124 => (if bt124.2 = 0 then (some (0, 0, 122)) else (some (3, bt124.2, 0)))) else ((lex_sign.f a0).bind fun t126 => (if t126 = 0 then (some (0, 0, 120)) else (some (5, t126, 0))))))))) else (none)
theorem lex_token.mono_l : ∀ k, (∀ y0 y1, LeO (lex_token.j0 k y0 y1) (lex_token.j0 (k + 1) y0 y1))
  | 0 => fun _ _ r h => by simp [lex_token.j0] at h
  | k + 1 => by
    have ih0 := lex_token.mono_l k
    · intro y0 y1
      unfold lex_token.j0
      repeat' first
      | (with_reducible exact ih0 _ _)
      | (with_reducible exact lex_quoted.mono _ _)
      | (with_reducible exact LeO.refl _)
      | (with_reducible exact LeO.none _)
      | (with_reducible refine LeO.ite ?_ ?_)
      | (with_reducible refine LeO.bind ?_ (fun _ => ?_))
      | exact ih0 _ _
      | exact lex_quoted.mono _ _
      | exact LeO.none _
      | refine LeO.ite ?_ ?_
      | refine LeO.bind ?_ (fun _ => ?_)
theorem lex_token.mono : ∀ a0 k, LeO (lex_token.f k a0) (lex_token.f (k + 1) a0) := by
  intro a0 k
  have ih0 := lex_token.mono_l k
  unfold lex_token.f
  repeat' first
      | (with_reducible exact ih0 _ _)
      | (with_reducible exact lex_quoted.mono _ _)
      | (with_reducible exact LeO.refl _)
      | (with_reducible exact LeO.none _)
      | (with_reducible refine LeO.ite ?_ ?_)
      | (with_reducible refine LeO.bind ?_ (fun _ => ?_))
      | exact ih0 _ _
      | exact lex_quoted.mono _ _
      | exact LeO.none _
      | refine LeO.ite ?_ ?_
      | refine LeO.bind ?_ (fun _ => ?_)
def lex_Next.f (k : Nat) (a0 : ByteArray) (a1 : Int) : Option (Int × Int × Int × Int) := if (a0.size : Int) > 65536 then (some (0, 0, 0, 3)) else (if a1 < 0 then (some (0, 0, 0, 1)) else (if a1 > (a0.size : Int) then (some (0, 0, 0, 1)) else ((lex_gap.f k a0 a1).bind fun t128 => (if t128 = (a0.size : Int) then (some (0, t128, t128, 0)) else (if 0 ≤ t128 then (if t128 ≤ (a0.size : Int) then ((lex_token.f k (a0.extract (t128 : Int).toNat a0.size)).bind fun bt129 => (if bt129.2.2 = 0 then (some (bt129.1, t128, wrap64 (t128 + bt129.2.1), 0)) else (some (0, t128, 0, bt129.2.2)))) else (none)) else (none))))))
theorem lex_Next.mono : ∀ a0 a1 k, LeO (lex_Next.f k a0 a1) (lex_Next.f (k + 1) a0 a1) := by
  intro a0 a1 k
  unfold lex_Next.f
  repeat' first
      | (with_reducible exact lex_gap.mono _ _ _)
      | (with_reducible exact lex_token.mono _ _)
      | (with_reducible exact LeO.refl _)
      | (with_reducible exact LeO.none _)
      | (with_reducible refine LeO.ite ?_ ?_)
      | (with_reducible refine LeO.bind ?_ (fun _ => ?_))
      | exact lex_gap.mono _ _ _
      | exact lex_token.mono _ _
      | exact LeO.none _
      | refine LeO.ite ?_ ?_
      | refine LeO.bind ?_ (fun _ => ?_)
def lex_All.l0 : Nat → ByteArray → List (S24) → Int → Option ((List (S24)) × Int × Int)
  | 0, _, _, _ => none
  | k + 1, x0, x4, x5 => (lex_Next.f k x0 x5).bind fun bt133 => (if bt133.2.2.2 = 0 then (if x4.length < 5864062014805 then ((some (x4 ++ [(⟨bt133.1, bt133.2.1, bt133.2.2.1⟩ : S24)] : List (S24))).bind fun y138 => (if bt133.1 = 0 then (some (y138, 0, 0)) else (lex_All.l0 k x0 y138 bt133.2.2.1))) else (none)) else (some (([] : List (S24)), bt133.2.2.2, bt133.2.1)))
def lex_All.f (k : Nat) (a0 : ByteArray) : Option ((List (S24)) × Int × Int) := lex_All.l0 k a0 ([] : List (S24)) 0
theorem lex_All.mono_l : ∀ k, (∀ y0 y1 y2, LeO (lex_All.l0 k y0 y1 y2) (lex_All.l0 (k + 1) y0 y1 y2))
  | 0 => fun _ _ _ r h => by simp [lex_All.l0] at h
  | k + 1 => by
    have ih0 := lex_All.mono_l k
    · intro y0 y1 y2
      unfold lex_All.l0
      repeat' first
      | (with_reducible exact ih0 _ _ _)
      | (with_reducible exact lex_Next.mono _ _ _)
      | (with_reducible exact LeO.refl _)
      | (with_reducible exact LeO.none _)
      | (with_reducible refine LeO.ite ?_ ?_)
      | (with_reducible refine LeO.bind ?_ (fun _ => ?_))
      | exact ih0 _ _ _
      | exact lex_Next.mono _ _ _
      | exact LeO.none _
      | refine LeO.ite ?_ ?_
      | refine LeO.bind ?_ (fun _ => ?_)
theorem lex_All.mono : ∀ a0 k, LeO (lex_All.f k a0) (lex_All.f (k + 1) a0) := by
  intro a0 k
  have ih0 := lex_All.mono_l k
  unfold lex_All.f
  repeat' first
      | (with_reducible exact ih0 _ _ _)
      | (with_reducible exact lex_Next.mono _ _ _)
      | (with_reducible exact LeO.refl _)
      | (with_reducible exact LeO.none _)
      | (with_reducible refine LeO.ite ?_ ?_)
      | (with_reducible refine LeO.bind ?_ (fun _ => ?_))
      | exact ih0 _ _ _
      | exact lex_Next.mono _ _ _
      | exact LeO.none _
      | refine LeO.ite ?_ ?_
      | refine LeO.bind ?_ (fun _ => ?_)
def lex_just.f (k : Nat) (a0 : ByteArray) (a1 : Int) : Option (Bool) := if a0.toList = ([] : List UInt8) then (some false) else ((lex_token.f k a0).bind fun bt141 => (if bt141.2.2 = 0 then (if bt141.1 = a1 then (some (bt141.2.1 == (a0.size : Int))) else (some false)) else (some false)))
theorem lex_just.mono : ∀ a0 a1 k, LeO (lex_just.f k a0 a1) (lex_just.f (k + 1) a0 a1) := by
  intro a0 a1 k
  unfold lex_just.f
  repeat' first
      | (with_reducible exact lex_token.mono _ _)
      | (with_reducible exact LeO.refl _)
      | (with_reducible exact LeO.none _)
      | (with_reducible refine LeO.ite ?_ ?_)
      | (with_reducible refine LeO.bind ?_ (fun _ => ?_))
      | exact lex_token.mono _ _
      | exact LeO.none _
      | refine LeO.ite ?_ ?_
      | refine LeO.bind ?_ (fun _ => ?_)
def lex_Word.f (k : Nat) (a0 : ByteArray) : Option (Bool) := (lex_just.f k a0 1).bind fun t144 => (some t144)
theorem lex_Word.mono : ∀ a0 k, LeO (lex_Word.f k a0) (lex_Word.f (k + 1) a0) := by
  intro a0 k
  unfold lex_Word.f
  repeat' first
      | (with_reducible exact lex_just.mono _ _ _)
      | (with_reducible exact LeO.refl _)
      | (with_reducible exact LeO.none _)
      | (with_reducible refine LeO.ite ?_ ?_)
      | (with_reducible refine LeO.bind ?_ (fun _ => ?_))
      | exact lex_just.mono _ _ _
      | exact LeO.none _
      | refine LeO.ite ?_ ?_
      | refine LeO.bind ?_ (fun _ => ?_)
def treadlelaw12_awake.f (k : Nat)  : Option (Bool) := (lex_All.f k (⟨#[97, 60, 61, 98, 32, 47, 47, 32, 120]⟩ : ByteArray)).bind fun bt145 => (if (bt145.2.1 == 0 && (bt145.2.2 == 0)) = true then (if (bt145.1.length : Int) = 4 then (if 1 < (bt145.1.length : Int) then (if (((rd_T24 bt145.1 1).f0) == 5 && (((rd_T24 bt145.1 1).f1) == 1 && (((rd_T24 bt145.1 1).f2) == 3))) = true then ((lex_Key.f (⟨#[105, 102]⟩ : ByteArray)).bind fun t152 => (if t152 = true then ((lex_Word.f k (⟨#[120, 49]⟩ : ByteArray)).bind fun t153 => (some t153)) else (some false))) else (some false)) else (none)) else (some false)) else (some false))
theorem treadlelaw12_awake.mono : ∀ k, LeO (treadlelaw12_awake.f k ) (treadlelaw12_awake.f (k + 1) ) := by
  intro  k
  unfold treadlelaw12_awake.f
  repeat' first
      | (with_reducible exact lex_All.mono _ _)
      | (with_reducible exact lex_Word.mono _ _)
      | (with_reducible exact LeO.refl _)
      | (with_reducible exact LeO.none _)
      | (with_reducible refine LeO.ite ?_ ?_)
      | (with_reducible refine LeO.bind ?_ (fun _ => ?_))
      | exact lex_All.mono _ _
      | exact lex_Word.mono _ _
      | exact LeO.none _
      | refine LeO.ite ?_ ?_
      | refine LeO.bind ?_ (fun _ => ?_)
mutual
def treadlelaw12_LexMunch.l0 : Nat → ByteArray → List (S24) → Int → Option (Bool)
  | 0, _, _, _ => none
  | k + 1, x0, x3, x5 => if x5 < (x3.length : Int) then (if 0 ≤ x5 then (if ((rd_T24 x3 x5).f0) = 0 then (treadlelaw12_LexMunch.l0 k x0 x3 (wrap64 (x5 + 1))) else (if (wrap64 (((rd_T24 x3 x5).f2) - ((rd_T24 x3 x5).f1))) < 1 then (some false) else (if 0 ≤ ((rd_T24 x3 x5).f1) then (if ((rd_T24 x3 x5).f1) ≤ ((rd_T24 x3 x5).f2) then (if ((rd_T24 x3 x5).f2) ≤ (x0.size : Int) then ((lex_Next.f k (x0.extract (((rd_T24 x3 x5).f1) : Int).toNat (((rd_T24 x3 x5).f2) : Int).toNat) 0).bind fun bt164 => (if bt164.2.2.2 = 0 then (treadlelaw12_LexMunch.j1 k x0 x3 x5 (!(bt164.1 == ((rd_T24 x3 x5).f0)) || (!(bt164.2.1 == 0) || (!(bt164.2.2.1 == (wrap64 (((rd_T24 x3 x5).f2) - ((rd_T24 x3 x5).f1))))))) ((rd_T24 x3 x5).f0) ((rd_T24 x3 x5).f1) ((rd_T24 x3 x5).f2) bt164.1 bt164.2.1 bt164.2.2.1) else (treadlelaw12_LexMunch.j1 k x0 x3 x5 true ((rd_T24 x3 x5).f0) ((rd_T24 x3 x5).f1) ((rd_T24 x3 x5).f2) bt164.1 bt164.2.1 bt164.2.2.1))) else (none)) else (none)) else (none)))) else (none)) else ((treadlelaw12_awake.f k).bind fun t161 => (some t161))
def treadlelaw12_LexMunch.j1 : Nat → ByteArray → List (S24) → Int → Bool → Int → Int → Int → Int → Int → Int → Option (Bool)
  | 0, _, _, _, _, _, _, _, _, _, _ => none
  | k + 1, x0, x3, x5, x64, x164000, x164001, x164002, x169000, x169001, x169002 => if x64 = true then (some false) else (if x164002 = (x0.size : Int) then (treadlelaw12_LexMunch.l0 k x0 x3 (wrap64 (x5 + 1))) else (if 0 ≤ x164001 then (if x164001 ≤ (wrap64 (x164002 + 1)) then (if (wrap64 (x164002 + 1)) ≤ (x0.size : Int) then ((lex_Next.f k (x0.extract (x164001 : Int).toNat ((wrap64 (x164002 + 1)) : Int).toNat) 0).bind fun bt169 => (if bt169.2.2.2 = 0 then (if (!(bt169.1 == x169000) || (!(bt169.2.1 == x169001) || (!(bt169.2.2.1 == x169002)))) = true then (some false) else (treadlelaw12_LexMunch.l0 k x0 x3 (wrap64 (x5 + 1)))) else (some false))) else (none)) else (none)) else (none)))
end
def treadlelaw12_LexMunch.f (k : Nat) (a0 : ByteArray) : Option (Bool) := (lex_All.f k a0).bind fun bt154 => (if (!(bt154.2.1 == 0) || (!(bt154.2.2 == 0))) = true then (if (bt154.1.length : Int) = 0 then ((treadlelaw12_awake.f k).bind fun t160 => (some t160)) else (some false)) else (treadlelaw12_LexMunch.l0 k a0 bt154.1 0))
theorem treadlelaw12_LexMunch.mono_l : ∀ k, (∀ y0 y1 y2, LeO (treadlelaw12_LexMunch.l0 k y0 y1 y2) (treadlelaw12_LexMunch.l0 (k + 1) y0 y1 y2)) ∧ (∀ y0 y1 y2 y3 y4 y5 y6 y7 y8 y9, LeO (treadlelaw12_LexMunch.j1 k y0 y1 y2 y3 y4 y5 y6 y7 y8 y9) (treadlelaw12_LexMunch.j1 (k + 1) y0 y1 y2 y3 y4 y5 y6 y7 y8 y9))
  | 0 => ⟨fun _ _ _ r h => by simp [treadlelaw12_LexMunch.l0] at h, fun _ _ _ _ _ _ _ _ _ _ r h => by simp [treadlelaw12_LexMunch.j1] at h⟩
  | k + 1 => by
    obtain ⟨ih0, ih1⟩ := treadlelaw12_LexMunch.mono_l k
    refine ⟨?_, ?_⟩
    · intro y0 y1 y2
      unfold treadlelaw12_LexMunch.l0
      repeat' first
      | (with_reducible exact ih0 _ _ _)
      | (with_reducible exact ih1 _ _ _ _ _ _ _ _ _ _)
      | (with_reducible exact lex_All.mono _ _)
      | (with_reducible exact lex_Next.mono _ _ _)
      | (with_reducible exact treadlelaw12_awake.mono _)
      | (with_reducible exact LeO.refl _)
      | (with_reducible exact LeO.none _)
      | (with_reducible refine LeO.ite ?_ ?_)
      | (with_reducible refine LeO.bind ?_ (fun _ => ?_))
      | exact ih0 _ _ _
      | exact ih1 _ _ _ _ _ _ _ _ _ _
      | exact lex_All.mono _ _
      | exact lex_Next.mono _ _ _
      | exact treadlelaw12_awake.mono _
      | exact LeO.none _
      | refine LeO.ite ?_ ?_
      | refine LeO.bind ?_ (fun _ => ?_)
    · intro y0 y1 y2 y3 y4 y5 y6 y7 y8 y9
      unfold treadlelaw12_LexMunch.j1
      repeat' first
      | (with_reducible exact ih0 _ _ _)
      | (with_reducible exact ih1 _ _ _ _ _ _ _ _ _ _)
      | (with_reducible exact lex_All.mono _ _)
      | (with_reducible exact lex_Next.mono _ _ _)
      | (with_reducible exact treadlelaw12_awake.mono _)
      | (with_reducible exact LeO.refl _)
      | (with_reducible exact LeO.none _)
      | (with_reducible refine LeO.ite ?_ ?_)
      | (with_reducible refine LeO.bind ?_ (fun _ => ?_))
      | exact ih0 _ _ _
      | exact ih1 _ _ _ _ _ _ _ _ _ _
      | exact lex_All.mono _ _
      | exact lex_Next.mono _ _ _
      | exact treadlelaw12_awake.mono _
      | exact LeO.none _
      | refine LeO.ite ?_ ?_
      | refine LeO.bind ?_ (fun _ => ?_)
theorem treadlelaw12_LexMunch.mono : ∀ a0 k, LeO (treadlelaw12_LexMunch.f k a0) (treadlelaw12_LexMunch.f (k + 1) a0) := by
  intro a0 k
  obtain ⟨ih0, ih1⟩ := treadlelaw12_LexMunch.mono_l k
  unfold treadlelaw12_LexMunch.f
  repeat' first
      | (with_reducible exact ih0 _ _ _)
      | (with_reducible exact ih1 _ _ _ _ _ _ _ _ _ _)
      | (with_reducible exact lex_All.mono _ _)
      | (with_reducible exact lex_Next.mono _ _ _)
      | (with_reducible exact treadlelaw12_awake.mono _)
      | (with_reducible exact LeO.refl _)
      | (with_reducible exact LeO.none _)
      | (with_reducible refine LeO.ite ?_ ?_)
      | (with_reducible refine LeO.bind ?_ (fun _ => ?_))
      | exact ih0 _ _ _
      | exact ih1 _ _ _ _ _ _ _ _ _ _
      | exact lex_All.mono _ _
      | exact lex_Next.mono _ _ _
      | exact treadlelaw12_awake.mono _
      | exact LeO.none _
      | refine LeO.ite ?_ ?_
      | refine LeO.bind ?_ (fun _ => ?_)
mutual
def treadleref12_Gap.l0 : Nat → ByteArray → Int → Option (Int)
  | 0, _, _ => none
  | k + 1, x0, x1 => if x1 < (x0.size : Int) then (if 0 ≤ x1 then (if (bt x0 x1) = 32 then (treadleref12_Gap.j1 k x0 x1 (bt x0 x1) true) else (if (bt x0 x1) = 9 then (treadleref12_Gap.j1 k x0 x1 (bt x0 x1) true) else (if (bt x0 x1) = 10 then (treadleref12_Gap.j1 k x0 x1 (bt x0 x1) true) else (treadleref12_Gap.j1 k x0 x1 (bt x0 x1) ((bt x0 x1) == 13))))) else (none)) else (some x1)
def treadleref12_Gap.j1 : Nat → ByteArray → Int → Int → Bool → Option (Int)
  | 0, _, _, _, _ => none
  | k + 1, x0, x1, x5, x14 => if x14 = true then (treadleref12_Gap.l0 k x0 (wrap64 (x1 + 1))) else (if x5 = 47 then (if (wrap64 (x1 + 1)) < (x0.size : Int) then (if 0 ≤ (wrap64 (x1 + 1)) then (treadleref12_Gap.j2 k x0 x1 ((bt x0 (wrap64 (x1 + 1))) == 47)) else (none)) else (treadleref12_Gap.j2 k x0 x1 false)) else (treadleref12_Gap.j2 k x0 x1 false))
def treadleref12_Gap.j2 : Nat → ByteArray → Int → Bool → Option (Int)
  | 0, _, _, _ => none
  | k + 1, x0, x1, x31 => if x31 = true then (treadleref12_Gap.l1 k x0 x1) else (some x1)
def treadleref12_Gap.l1 : Nat → ByteArray → Int → Option (Int)
  | 0, _, _ => none
  | k + 1, x0, x1 => if x1 < (x0.size : Int) then (if 0 ≤ x1 then (if (bt x0 x1) = 10 then (treadleref12_Gap.l0 k x0 x1) else (treadleref12_Gap.l1 k x0 (wrap64 (x1 + 1)))) else (none)) else (treadleref12_Gap.l0 k x0 x1)
end
def treadleref12_Gap.f (k : Nat) (a0 : ByteArray) (a1 : Int) : Option (Int) := treadleref12_Gap.l0 k a0 a1
theorem treadleref12_Gap.mono_l : ∀ k, (∀ y0 y1, LeO (treadleref12_Gap.l0 k y0 y1) (treadleref12_Gap.l0 (k + 1) y0 y1)) ∧ (∀ y0 y1 y2 y3, LeO (treadleref12_Gap.j1 k y0 y1 y2 y3) (treadleref12_Gap.j1 (k + 1) y0 y1 y2 y3)) ∧ (∀ y0 y1 y2, LeO (treadleref12_Gap.j2 k y0 y1 y2) (treadleref12_Gap.j2 (k + 1) y0 y1 y2)) ∧ (∀ y0 y1, LeO (treadleref12_Gap.l1 k y0 y1) (treadleref12_Gap.l1 (k + 1) y0 y1))
  | 0 => ⟨fun _ _ r h => by simp [treadleref12_Gap.l0] at h, fun _ _ _ _ r h => by simp [treadleref12_Gap.j1] at h, fun _ _ _ r h => by simp [treadleref12_Gap.j2] at h, fun _ _ r h => by simp [treadleref12_Gap.l1] at h⟩
  | k + 1 => by
    obtain ⟨ih0, ih1, ih2, ih3⟩ := treadleref12_Gap.mono_l k
    refine ⟨?_, ?_, ?_, ?_⟩
    · intro y0 y1
      unfold treadleref12_Gap.l0
      repeat' first
      | (with_reducible exact ih0 _ _)
      | (with_reducible exact ih1 _ _ _ _)
      | (with_reducible exact ih2 _ _ _)
      | (with_reducible exact ih3 _ _)
      | (with_reducible exact LeO.refl _)
      | (with_reducible exact LeO.none _)
      | (with_reducible refine LeO.ite ?_ ?_)
      | (with_reducible refine LeO.bind ?_ (fun _ => ?_))
      | exact ih0 _ _
      | exact ih1 _ _ _ _
      | exact ih2 _ _ _
      | exact ih3 _ _
      | exact LeO.none _
      | refine LeO.ite ?_ ?_
      | refine LeO.bind ?_ (fun _ => ?_)
    · intro y0 y1 y2 y3
      unfold treadleref12_Gap.j1
      repeat' first
      | (with_reducible exact ih0 _ _)
      | (with_reducible exact ih1 _ _ _ _)
      | (with_reducible exact ih2 _ _ _)
      | (with_reducible exact ih3 _ _)
      | (with_reducible exact LeO.refl _)
      | (with_reducible exact LeO.none _)
      | (with_reducible refine LeO.ite ?_ ?_)
      | (with_reducible refine LeO.bind ?_ (fun _ => ?_))
      | exact ih0 _ _
      | exact ih1 _ _ _ _
      | exact ih2 _ _ _
      | exact ih3 _ _
      | exact LeO.none _
      | refine LeO.ite ?_ ?_
      | refine LeO.bind ?_ (fun _ => ?_)
    · intro y0 y1 y2
      unfold treadleref12_Gap.j2
      repeat' first
      | (with_reducible exact ih0 _ _)
      | (with_reducible exact ih1 _ _ _ _)
      | (with_reducible exact ih2 _ _ _)
      | (with_reducible exact ih3 _ _)
      | (with_reducible exact LeO.refl _)
      | (with_reducible exact LeO.none _)
      | (with_reducible refine LeO.ite ?_ ?_)
      | (with_reducible refine LeO.bind ?_ (fun _ => ?_))
      | exact ih0 _ _
      | exact ih1 _ _ _ _
      | exact ih2 _ _ _
      | exact ih3 _ _
      | exact LeO.none _
      | refine LeO.ite ?_ ?_
      | refine LeO.bind ?_ (fun _ => ?_)
    · intro y0 y1
      unfold treadleref12_Gap.l1
      repeat' first
      | (with_reducible exact ih0 _ _)
      | (with_reducible exact ih1 _ _ _ _)
      | (with_reducible exact ih2 _ _ _)
      | (with_reducible exact ih3 _ _)
      | (with_reducible exact LeO.refl _)
      | (with_reducible exact LeO.none _)
      | (with_reducible refine LeO.ite ?_ ?_)
      | (with_reducible refine LeO.bind ?_ (fun _ => ?_))
      | exact ih0 _ _
      | exact ih1 _ _ _ _
      | exact ih2 _ _ _
      | exact ih3 _ _
      | exact LeO.none _
      | refine LeO.ite ?_ ?_
      | refine LeO.bind ?_ (fun _ => ?_)
theorem treadleref12_Gap.mono : ∀ a0 a1 k, LeO (treadleref12_Gap.f k a0 a1) (treadleref12_Gap.f (k + 1) a0 a1) := by
  intro a0 a1 k
  obtain ⟨ih0, ih1, ih2, ih3⟩ := treadleref12_Gap.mono_l k
  unfold treadleref12_Gap.f
  repeat' first
      | (with_reducible exact ih0 _ _)
      | (with_reducible exact ih1 _ _ _ _)
      | (with_reducible exact ih2 _ _ _)
      | (with_reducible exact ih3 _ _)
      | (with_reducible exact LeO.refl _)
      | (with_reducible exact LeO.none _)
      | (with_reducible refine LeO.ite ?_ ?_)
      | (with_reducible refine LeO.bind ?_ (fun _ => ?_))
      | exact ih0 _ _
      | exact ih1 _ _ _ _
      | exact ih2 _ _ _
      | exact ih3 _ _
      | exact LeO.none _
      | refine LeO.ite ?_ ?_
      | refine LeO.bind ?_ (fun _ => ?_)
def treadlelaw12_LexLost.l0 : Nat → ByteArray → List (S24) → Int → Int → Option (Bool)
  | 0, _, _, _, _ => none
  | k + 1, x0, x3, x5, x6 => if x6 < (x3.length : Int) then (if 0 ≤ x6 then ((treadleref12_Gap.f k x0 x5).bind fun t182 => (if ((rd_T24 x3 x6).f1) = t182 then (if ((rd_T24 x3 x6).f2) < ((rd_T24 x3 x6).f1) then (some false) else (if ((rd_T24 x3 x6).f2) > (x0.size : Int) then (some false) else (if ((((rd_T24 x3 x6).f0) == 0) != (x6 == (wrap64 ((x3.length : Int) - 1)))) = true then (some false) else (treadlelaw12_LexLost.l0 k x0 x3 ((rd_T24 x3 x6).f2) (wrap64 (x6 + 1)))))) else (some false))) else (none)) else (if x5 = (x0.size : Int) then (if (x3.length : Int) > 0 then ((treadlelaw12_awake.f k).bind fun t188 => (some t188)) else (some false)) else (some false))
def treadlelaw12_LexLost.f (k : Nat) (a0 : ByteArray) : Option (Bool) := (lex_All.f k a0).bind fun bt174 => (if (!(bt174.2.1 == 0) || (!(bt174.2.2 == 0))) = true then ((treadlelaw12_awake.f k).bind fun t180 => (some t180)) else (treadlelaw12_LexLost.l0 k a0 bt174.1 0 0))
theorem treadlelaw12_LexLost.mono_l : ∀ k, (∀ y0 y1 y2 y3, LeO (treadlelaw12_LexLost.l0 k y0 y1 y2 y3) (treadlelaw12_LexLost.l0 (k + 1) y0 y1 y2 y3))
  | 0 => fun _ _ _ _ r h => by simp [treadlelaw12_LexLost.l0] at h
  | k + 1 => by
    have ih0 := treadlelaw12_LexLost.mono_l k
    · intro y0 y1 y2 y3
      unfold treadlelaw12_LexLost.l0
      repeat' first
      | (with_reducible exact ih0 _ _ _ _)
      | (with_reducible exact lex_All.mono _ _)
      | (with_reducible exact treadlelaw12_awake.mono _)
      | (with_reducible exact treadleref12_Gap.mono _ _ _)
      | (with_reducible exact LeO.refl _)
      | (with_reducible exact LeO.none _)
      | (with_reducible refine LeO.ite ?_ ?_)
      | (with_reducible refine LeO.bind ?_ (fun _ => ?_))
      | exact ih0 _ _ _ _
      | exact lex_All.mono _ _
      | exact treadlelaw12_awake.mono _
      | exact treadleref12_Gap.mono _ _ _
      | exact LeO.none _
      | refine LeO.ite ?_ ?_
      | refine LeO.bind ?_ (fun _ => ?_)
theorem treadlelaw12_LexLost.mono : ∀ a0 k, LeO (treadlelaw12_LexLost.f k a0) (treadlelaw12_LexLost.f (k + 1) a0) := by
  intro a0 k
  have ih0 := treadlelaw12_LexLost.mono_l k
  unfold treadlelaw12_LexLost.f
  repeat' first
      | (with_reducible exact ih0 _ _ _ _)
      | (with_reducible exact lex_All.mono _ _)
      | (with_reducible exact treadlelaw12_awake.mono _)
      | (with_reducible exact treadleref12_Gap.mono _ _ _)
      | (with_reducible exact LeO.refl _)
      | (with_reducible exact LeO.none _)
      | (with_reducible refine LeO.ite ?_ ?_)
      | (with_reducible refine LeO.bind ?_ (fun _ => ?_))
      | exact ih0 _ _ _ _
      | exact lex_All.mono _ _
      | exact treadlelaw12_awake.mono _
      | exact treadleref12_Gap.mono _ _ _
      | exact LeO.none _
      | refine LeO.ite ?_ ?_
      | refine LeO.bind ?_ (fun _ => ?_)
mutual
def treadlelaw12_LexFirst.j0 : Nat → ByteArray → Bool → Int → Int → Option (Bool)
  | 0, _, _, _, _ => none
  | k + 1, x0, x44, x195000, x195001 => if x44 = true then (some false) else (if 0 ≤ x195001 then (if x195001 ≤ (x0.size : Int) then ((lex_All.f k (x0.extract 0 (x195001 : Int).toNat)).bind fun bt196 => ((lex_Next.f k x0 x195001).bind fun bt202 => (if (bt196.2.1 == 0 && (bt196.2.2 == 0)) = true then (if (bt196.1.length : Int) > 0 then (if bt202.2.2.2 = x195000 then (if (bt202.1 == 0 && (bt202.2.1 == x195001 && (bt202.2.2.1 == 0))) = true then ((treadlelaw12_awake.f k).bind fun t207 => (some t207)) else (some false)) else (some false)) else (some false)) else (some false)))) else (none)) else (none))
def treadlelaw12_LexFirst.l0 : Nat → ByteArray → List (S24) → Int → Int → Option (Bool)
  | 0, _, _, _, _ => none
  | k + 1, x0, x3, x9, x10 => if x10 < (x3.length : Int) then ((lex_Next.f k x0 x9).bind fun bt208 => (if bt208.2.2.2 = 0 then (if 0 ≤ x10 then (if (!(bt208.1 == ((rd_T24 x3 x10).f0)) || (!(bt208.2.1 == ((rd_T24 x3 x10).f1)) || (!(bt208.2.2.1 == ((rd_T24 x3 x10).f2))))) = true then (some false) else (treadlelaw12_LexFirst.l0 k x0 x3 bt208.2.2.1 (wrap64 (x10 + 1)))) else (none)) else (some false))) else ((treadlelaw12_awake.f k).bind fun t214 => (some t214))
end
def treadlelaw12_LexFirst.f (k : Nat) (a0 : ByteArray) : Option (Bool) := (lex_All.f k a0).bind fun bt189 => (if bt189.2.1 = 3 then (if (a0.size : Int) > 65536 then (if bt189.2.2 = 0 then ((treadlelaw12_awake.f k).bind fun t195 => (some t195)) else (some false)) else (some false)) else (if (!(bt189.2.1 == 0) || (!(bt189.2.2 == 0))) = true then (if bt189.2.2 < 0 then (treadlelaw12_LexFirst.j0 k a0 true bt189.2.1 bt189.2.2) else (treadlelaw12_LexFirst.j0 k a0 (decide (bt189.2.2 ≥ (a0.size : Int))) bt189.2.1 bt189.2.2)) else (treadlelaw12_LexFirst.l0 k a0 bt189.1 0 0)))
theorem treadlelaw12_LexFirst.mono_l : ∀ k, (∀ y0 y1 y2 y3, LeO (treadlelaw12_LexFirst.j0 k y0 y1 y2 y3) (treadlelaw12_LexFirst.j0 (k + 1) y0 y1 y2 y3)) ∧ (∀ y0 y1 y2 y3, LeO (treadlelaw12_LexFirst.l0 k y0 y1 y2 y3) (treadlelaw12_LexFirst.l0 (k + 1) y0 y1 y2 y3))
  | 0 => ⟨fun _ _ _ _ r h => by simp [treadlelaw12_LexFirst.j0] at h, fun _ _ _ _ r h => by simp [treadlelaw12_LexFirst.l0] at h⟩
  | k + 1 => by
    obtain ⟨ih0, ih1⟩ := treadlelaw12_LexFirst.mono_l k
    refine ⟨?_, ?_⟩
    · intro y0 y1 y2 y3
      unfold treadlelaw12_LexFirst.j0
      repeat' first
      | (with_reducible exact ih0 _ _ _ _)
      | (with_reducible exact ih1 _ _ _ _)
      | (with_reducible exact lex_All.mono _ _)
      | (with_reducible exact lex_Next.mono _ _ _)
      | (with_reducible exact treadlelaw12_awake.mono _)
      | (with_reducible exact LeO.refl _)
      | (with_reducible exact LeO.none _)
      | (with_reducible refine LeO.ite ?_ ?_)
      | (with_reducible refine LeO.bind ?_ (fun _ => ?_))
      | exact ih0 _ _ _ _
      | exact ih1 _ _ _ _
      | exact lex_All.mono _ _
      | exact lex_Next.mono _ _ _
      | exact treadlelaw12_awake.mono _
      | exact LeO.none _
      | refine LeO.ite ?_ ?_
      | refine LeO.bind ?_ (fun _ => ?_)
    · intro y0 y1 y2 y3
      unfold treadlelaw12_LexFirst.l0
      repeat' first
      | (with_reducible exact ih0 _ _ _ _)
      | (with_reducible exact ih1 _ _ _ _)
      | (with_reducible exact lex_All.mono _ _)
      | (with_reducible exact lex_Next.mono _ _ _)
      | (with_reducible exact treadlelaw12_awake.mono _)
      | (with_reducible exact LeO.refl _)
      | (with_reducible exact LeO.none _)
      | (with_reducible refine LeO.ite ?_ ?_)
      | (with_reducible refine LeO.bind ?_ (fun _ => ?_))
      | exact ih0 _ _ _ _
      | exact ih1 _ _ _ _
      | exact lex_All.mono _ _
      | exact lex_Next.mono _ _ _
      | exact treadlelaw12_awake.mono _
      | exact LeO.none _
      | refine LeO.ite ?_ ?_
      | refine LeO.bind ?_ (fun _ => ?_)
theorem treadlelaw12_LexFirst.mono : ∀ a0 k, LeO (treadlelaw12_LexFirst.f k a0) (treadlelaw12_LexFirst.f (k + 1) a0) := by
  intro a0 k
  obtain ⟨ih0, ih1⟩ := treadlelaw12_LexFirst.mono_l k
  unfold treadlelaw12_LexFirst.f
  repeat' first
      | (with_reducible exact ih0 _ _ _ _)
      | (with_reducible exact ih1 _ _ _ _)
      | (with_reducible exact lex_All.mono _ _)
      | (with_reducible exact lex_Next.mono _ _ _)
      | (with_reducible exact treadlelaw12_awake.mono _)
      | (with_reducible exact LeO.refl _)
      | (with_reducible exact LeO.none _)
      | (with_reducible refine LeO.ite ?_ ?_)
      | (with_reducible refine LeO.bind ?_ (fun _ => ?_))
      | exact ih0 _ _ _ _
      | exact ih1 _ _ _ _
      | exact lex_All.mono _ _
      | exact lex_Next.mono _ _ _
      | exact treadlelaw12_awake.mono _
      | exact LeO.none _
      | refine LeO.ite ?_ ?_
      | refine LeO.bind ?_ (fun _ => ?_)
def treadleref12_Digit.f (a0 : Int) : Option (Bool) := if a0 ≥ 48 then (some (decide (a0 ≤ 57))) else (some false)
mutual
def treadleref12_Number.j0 : Nat → ByteArray → Bool → Option (Int × Int)
  | 0, _, _ => none
  | k + 1, x0, x19 => if x19 = true then (some (0, 121)) else (treadleref12_Number.l0 k x0 0 0)
def treadleref12_Number.l0 : Nat → ByteArray → Int → Int → Option (Int × Int)
  | 0, _, _, _ => none
  | k + 1, x0, x4, x5 => if x5 < (x0.size : Int) then (if 0 ≤ x5 then ((treadleref12_Digit.f (bt x0 x5)).bind fun t215 => (if t215 = true then (if x4 > ((9223372036854775807 - (((bt x0 x5) - 48) % 256)) / 10) then (some (0, 121)) else (treadleref12_Number.l0 k x0 (IntKind.u64.wrap ((IntKind.u64.wrap (10 * x4)) + (((bt x0 x5) - 48) % 256))) (wrap64 (x5 + 1)))) else (some (0, 121)))) else (none)) else (some (wrap64 (x4), 0))
end
def treadleref12_Number.f (k : Nat) (a0 : ByteArray) : Option (Int × Int) := if (a0.size : Int) = 0 then (treadleref12_Number.j0 k a0 true) else (if (a0.size : Int) > 1 then (if 0 < (a0.size : Int) then (treadleref12_Number.j0 k a0 ((bt a0 0) == 48)) else (none)) else (treadleref12_Number.j0 k a0 false))
theorem treadleref12_Number.mono_l : ∀ k, (∀ y0 y1, LeO (treadleref12_Number.j0 k y0 y1) (treadleref12_Number.j0 (k + 1) y0 y1)) ∧ (∀ y0 y1 y2, LeO (treadleref12_Number.l0 k y0 y1 y2) (treadleref12_Number.l0 (k + 1) y0 y1 y2))
  | 0 => ⟨fun _ _ r h => by simp [treadleref12_Number.j0] at h, fun _ _ _ r h => by simp [treadleref12_Number.l0] at h⟩
  | k + 1 => by
    obtain ⟨ih0, ih1⟩ := treadleref12_Number.mono_l k
    refine ⟨?_, ?_⟩
    · intro y0 y1
      unfold treadleref12_Number.j0
      repeat' first
      | (with_reducible exact ih0 _ _)
      | (with_reducible exact ih1 _ _ _)
      | (with_reducible exact LeO.refl _)
      | (with_reducible exact LeO.none _)
      | (with_reducible refine LeO.ite ?_ ?_)
      | (with_reducible refine LeO.bind ?_ (fun _ => ?_))
      | exact ih0 _ _
      | exact ih1 _ _ _
      | exact LeO.none _
      | refine LeO.ite ?_ ?_
      | refine LeO.bind ?_ (fun _ => ?_)
    · intro y0 y1 y2
      unfold treadleref12_Number.l0
      repeat' first
      | (with_reducible exact ih0 _ _)
      | (with_reducible exact ih1 _ _ _)
      | (with_reducible exact LeO.refl _)
      | (with_reducible exact LeO.none _)
      | (with_reducible refine LeO.ite ?_ ?_)
      | (with_reducible refine LeO.bind ?_ (fun _ => ?_))
      | exact ih0 _ _
      | exact ih1 _ _ _
      | exact LeO.none _
      | refine LeO.ite ?_ ?_
      | refine LeO.bind ?_ (fun _ => ?_)
theorem treadleref12_Number.mono : ∀ a0 k, LeO (treadleref12_Number.f k a0) (treadleref12_Number.f (k + 1) a0) := by
  intro a0 k
  obtain ⟨ih0, ih1⟩ := treadleref12_Number.mono_l k
  unfold treadleref12_Number.f
  repeat' first
      | (with_reducible exact ih0 _ _)
      | (with_reducible exact ih1 _ _ _)
      | (with_reducible exact LeO.refl _)
      | (with_reducible exact LeO.none _)
      | (with_reducible refine LeO.ite ?_ ?_)
      | (with_reducible refine LeO.bind ?_ (fun _ => ?_))
      | exact ih0 _ _
      | exact ih1 _ _ _
      | exact LeO.none _
      | refine LeO.ite ?_ ?_
      | refine LeO.bind ?_ (fun _ => ?_)
def treadleref12_among.l0 : Nat → List ByteArray → ByteArray → Int → Option (Bool)
  | 0, _, _, _ => none
  | k + 1, x0, x1, x5 => if x5 < (x0.length : Int) then (if 0 ≤ x5 then (if (rdOf ByteArray.empty x0 x5).toList = x1.toList then (some true) else (treadleref12_among.l0 k x0 x1 (wrap64 (x5 + 1)))) else (none)) else (some false)
def treadleref12_among.f (k : Nat) (l0 : List ByteArray) (a1 : ByteArray) : Option (Bool) := treadleref12_among.l0 k l0 a1 0
theorem treadleref12_among.mono_l : ∀ k, (∀ y0 y1 y2, LeO (treadleref12_among.l0 k y0 y1 y2) (treadleref12_among.l0 (k + 1) y0 y1 y2))
  | 0 => fun _ _ _ r h => by simp [treadleref12_among.l0] at h
  | k + 1 => by
    have ih0 := treadleref12_among.mono_l k
    · intro y0 y1 y2
      unfold treadleref12_among.l0
      repeat' first
      | (with_reducible exact ih0 _ _ _)
      | (with_reducible exact LeO.refl _)
      | (with_reducible exact LeO.none _)
      | (with_reducible refine LeO.ite ?_ ?_)
      | (with_reducible refine LeO.bind ?_ (fun _ => ?_))
      | exact ih0 _ _ _
      | exact LeO.none _
      | refine LeO.ite ?_ ?_
      | refine LeO.bind ?_ (fun _ => ?_)
theorem treadleref12_among.mono : ∀ a0 a1 k, LeO (treadleref12_among.f k a0 a1) (treadleref12_among.f (k + 1) a0 a1) := by
  intro a0 a1 k
  have ih0 := treadleref12_among.mono_l k
  unfold treadleref12_among.f
  repeat' first
      | (with_reducible exact ih0 _ _ _)
      | (with_reducible exact LeO.refl _)
      | (with_reducible exact LeO.none _)
      | (with_reducible refine LeO.ite ?_ ?_)
      | (with_reducible refine LeO.bind ?_ (fun _ => ?_))
      | exact ih0 _ _ _
      | exact LeO.none _
      | refine LeO.ite ?_ ?_
      | refine LeO.bind ?_ (fun _ => ?_)
def treadleref12_keys.f  : Option (List ByteArray) := some (([(⟨#[105, 110, 99, 108, 117, 100, 101]⟩ : ByteArray), (⟨#[97, 115]⟩ : ByteArray), (⟨#[101, 120, 112, 111, 114, 116]⟩ : ByteArray), (⟨#[99, 111, 110, 115, 116]⟩ : ByteArray), (⟨#[102, 117, 110, 99]⟩ : ByteArray), (⟨#[118, 97, 114]⟩ : ByteArray), (⟨#[105, 102]⟩ : ByteArray), (⟨#[101, 108, 115, 101]⟩ : ByteArray), (⟨#[119, 104, 105, 108, 101]⟩ : ByteArray), (⟨#[114, 101, 116, 117, 114, 110]⟩ : ByteArray), (⟨#[112, 114, 105, 110, 116]⟩ : ByteArray), (⟨#[116, 114, 117, 101]⟩ : ByteArray), (⟨#[102, 97, 108, 115, 101]⟩ : ByteArray), (⟨#[105, 110, 116]⟩ : ByteArray), (⟨#[98, 111, 111, 108]⟩ : ByteArray), (⟨#[116, 101, 120, 116]⟩ : ByteArray)] : List ByteArray))
def treadleref12_Key.f (k : Nat) (a0 : ByteArray) : Option (Bool) := (treadleref12_keys.f).bind fun t220 => ((treadleref12_among.f k t220 a0).bind fun t223 => (some t223))
theorem treadleref12_Key.mono : ∀ a0 k, LeO (treadleref12_Key.f k a0) (treadleref12_Key.f (k + 1) a0) := by
  intro a0 k
  unfold treadleref12_Key.f
  repeat' first
      | (with_reducible exact treadleref12_among.mono _ _ _)
      | (with_reducible exact LeO.refl _)
      | (with_reducible exact LeO.none _)
      | (with_reducible refine LeO.ite ?_ ?_)
      | (with_reducible refine LeO.bind ?_ (fun _ => ?_))
      | exact treadleref12_among.mono _ _ _
      | exact LeO.none _
      | refine LeO.ite ?_ ?_
      | refine LeO.bind ?_ (fun _ => ?_)
def treadleref12_half.f (a0 : Int) : Option (Int) := (treadleref12_Digit.f a0).bind fun t224 => (if t224 = true then (some ((a0 - 48) % 256)) else (if a0 ≥ 97 then (if a0 ≤ 102 then (some ((((a0 - 97) % 256) + 10) % 256)) else (some 16)) else (some 16)))
mutual
def treadleref12_piece.j0 : Nat → ByteArray → Int → Int → Bool → Option (Int × Int)
  | 0, _, _, _, _ => none
  | k + 1, x0, x1, x35, x40 => if x40 = true then (if 0 ≤ (wrap64 (x1 + 1)) then (if (wrap64 (x1 + 1)) < (x0.size : Int) then (some (bt x0 (wrap64 (x1 + 1)), 2)) else (none)) else (none)) else (if x35 = 120 then (if (wrap64 (x1 + 3)) < (x0.size : Int) then (if 0 ≤ (wrap64 (x1 + 2)) then (if (wrap64 (x1 + 2)) < (x0.size : Int) then ((treadleref12_half.f (bt x0 (wrap64 (x1 + 2)))).bind fun t225 => (if t225 < 16 then (if 0 ≤ (wrap64 (x1 + 3)) then ((treadleref12_half.f (bt x0 (wrap64 (x1 + 3)))).bind fun t226 => (treadleref12_piece.j1 k x0 x1 (decide (t226 < 16)))) else (none)) else (treadleref12_piece.j1 k x0 x1 false))) else (none)) else (none)) else (treadleref12_piece.j1 k x0 x1 false)) else (some (0, 0)))
def treadleref12_piece.j1 : Nat → ByteArray → Int → Bool → Option (Int × Int)
  | 0, _, _, _ => none
  | k + 1, x0, x1, x69 => if x69 = true then (if 0 ≤ (wrap64 (x1 + 2)) then (if (wrap64 (x1 + 2)) < (x0.size : Int) then ((treadleref12_half.f (bt x0 (wrap64 (x1 + 2)))).bind fun t227 => (if 0 ≤ (wrap64 (x1 + 3)) then (if (wrap64 (x1 + 3)) < (x0.size : Int) then ((treadleref12_half.f (bt x0 (wrap64 (x1 + 3)))).bind fun t228 => (some (Go.bits .or .u8 ((t227 * 16) % 256) t228, 4))) else (none)) else (none))) else (none)) else (none)) else (some (0, 0))
end
def treadleref12_piece.f (k : Nat) (a0 : ByteArray) (a1 : Int) : Option (Int × Int) := if a1 ≥ (a0.size : Int) then (some (0, 0)) else (if 0 ≤ a1 then (if a1 < (a0.size : Int) then (if (bt a0 a1) = 92 then (if (wrap64 (a1 + 1)) ≥ (a0.size : Int) then (some (0, 0)) else (if 0 ≤ (wrap64 (a1 + 1)) then (if (wrap64 (a1 + 1)) < (a0.size : Int) then (if (bt a0 (wrap64 (a1 + 1))) = 110 then (some (10, 2)) else (if (bt a0 (wrap64 (a1 + 1))) = 116 then (some (9, 2)) else (if (bt a0 (wrap64 (a1 + 1))) = 34 then (treadleref12_piece.j0 k a0 a1 (bt a0 (wrap64 (a1 + 1))) ((bt a0 (wrap64 (a1 + 1))) == 34)) else (treadleref12_piece.j0 k a0 a1 (bt a0 (wrap64 (a1 + 1))) ((bt a0 (wrap64 (a1 + 1))) == 92))))) else (none)) else (none))) else (if (bt a0 a1) < 32 then (some (0, 0)) else (if (bt a0 a1) > 126 then (some (0, 0)) else (if (bt a0 a1) = 34 then (some (0, 0)) else (some (bt a0 a1, 1)))))) else (none)) else (none))
theorem treadleref12_piece.mono_l : ∀ k, (∀ y0 y1 y2 y3, LeO (treadleref12_piece.j0 k y0 y1 y2 y3) (treadleref12_piece.j0 (k + 1) y0 y1 y2 y3)) ∧ (∀ y0 y1 y2, LeO (treadleref12_piece.j1 k y0 y1 y2) (treadleref12_piece.j1 (k + 1) y0 y1 y2))
  | 0 => ⟨fun _ _ _ _ r h => by simp [treadleref12_piece.j0] at h, fun _ _ _ r h => by simp [treadleref12_piece.j1] at h⟩
  | k + 1 => by
    obtain ⟨ih0, ih1⟩ := treadleref12_piece.mono_l k
    refine ⟨?_, ?_⟩
    · intro y0 y1 y2 y3
      unfold treadleref12_piece.j0
      repeat' first
      | (with_reducible exact ih0 _ _ _ _)
      | (with_reducible exact ih1 _ _ _)
      | (with_reducible exact LeO.refl _)
      | (with_reducible exact LeO.none _)
      | (with_reducible refine LeO.ite ?_ ?_)
      | (with_reducible refine LeO.bind ?_ (fun _ => ?_))
      | exact ih0 _ _ _ _
      | exact ih1 _ _ _
      | exact LeO.none _
      | refine LeO.ite ?_ ?_
      | refine LeO.bind ?_ (fun _ => ?_)
    · intro y0 y1 y2
      unfold treadleref12_piece.j1
      repeat' first
      | (with_reducible exact ih0 _ _ _ _)
      | (with_reducible exact ih1 _ _ _)
      | (with_reducible exact LeO.refl _)
      | (with_reducible exact LeO.none _)
      | (with_reducible refine LeO.ite ?_ ?_)
      | (with_reducible refine LeO.bind ?_ (fun _ => ?_))
      | exact ih0 _ _ _ _
      | exact ih1 _ _ _
      | exact LeO.none _
      | refine LeO.ite ?_ ?_
      | refine LeO.bind ?_ (fun _ => ?_)
theorem treadleref12_piece.mono : ∀ a0 a1 k, LeO (treadleref12_piece.f k a0 a1) (treadleref12_piece.f (k + 1) a0 a1) := by
  intro a0 a1 k
  obtain ⟨ih0, ih1⟩ := treadleref12_piece.mono_l k
  unfold treadleref12_piece.f
  repeat' first
      | (with_reducible exact ih0 _ _ _ _)
      | (with_reducible exact ih1 _ _ _)
      | (with_reducible exact LeO.refl _)
      | (with_reducible exact LeO.none _)
      | (with_reducible refine LeO.ite ?_ ?_)
      | (with_reducible refine LeO.bind ?_ (fun _ => ?_))
      | exact ih0 _ _ _ _
      | exact ih1 _ _ _
      | exact LeO.none _
      | refine LeO.ite ?_ ?_
      | refine LeO.bind ?_ (fun _ => ?_)
mutual
def treadleref12_quoted.l0 : Nat → ByteArray → List Int → Int → Option (ByteArray × Int)
  | 0, _, _, _ => none
  | k + 1, x0, x6, x7 => if x7 < (x0.size : Int) then (if 0 ≤ x7 then (treadleref12_quoted.j1 k x0 x6 x7 ((bt x0 x7) == 34)) else (none)) else (treadleref12_quoted.j1 k x0 x6 x7 false)
def treadleref12_quoted.j1 : Nat → ByteArray → List Int → Int → Bool → Option (ByteArray × Int)
  | 0, _, _, _, _ => none
  | k + 1, x0, x6, x7, x21 => if x21 = true then (if (x6.length : Int) > 4096 then (some ((⟨#[]⟩ : ByteArray), (-1))) else (some (strOfNums x6, wrap64 (x7 + 1)))) else ((treadleref12_piece.f k x0 x7).bind fun bt229 => (if bt229.2 = 0 then (some ((⟨#[]⟩ : ByteArray), (-1))) else (if x6.length < 140737488355328 then (treadleref12_quoted.l0 k x0 (x6 ++ [bt229.1]) (wrap64 (x7 + bt229.2))) else (none))))
end
def treadleref12_quoted.f (k : Nat) (a0 : ByteArray) (a1 : Int) : Option (ByteArray × Int) := treadleref12_quoted.l0 k a0 ([] : List Int) (wrap64 (a1 + 1))
theorem treadleref12_quoted.mono_l : ∀ k, (∀ y0 y1 y2, LeO (treadleref12_quoted.l0 k y0 y1 y2) (treadleref12_quoted.l0 (k + 1) y0 y1 y2)) ∧ (∀ y0 y1 y2 y3, LeO (treadleref12_quoted.j1 k y0 y1 y2 y3) (treadleref12_quoted.j1 (k + 1) y0 y1 y2 y3))
  | 0 => ⟨fun _ _ _ r h => by simp [treadleref12_quoted.l0] at h, fun _ _ _ _ r h => by simp [treadleref12_quoted.j1] at h⟩
  | k + 1 => by
    obtain ⟨ih0, ih1⟩ := treadleref12_quoted.mono_l k
    refine ⟨?_, ?_⟩
    · intro y0 y1 y2
      unfold treadleref12_quoted.l0
      repeat' first
      | (with_reducible exact ih0 _ _ _)
      | (with_reducible exact ih1 _ _ _ _)
      | (with_reducible exact treadleref12_piece.mono _ _ _)
      | (with_reducible exact LeO.refl _)
      | (with_reducible exact LeO.none _)
      | (with_reducible refine LeO.ite ?_ ?_)
      | (with_reducible refine LeO.bind ?_ (fun _ => ?_))
      | exact ih0 _ _ _
      | exact ih1 _ _ _ _
      | exact treadleref12_piece.mono _ _ _
      | exact LeO.none _
      | refine LeO.ite ?_ ?_
      | refine LeO.bind ?_ (fun _ => ?_)
    · intro y0 y1 y2 y3
      unfold treadleref12_quoted.j1
      repeat' first
      | (with_reducible exact ih0 _ _ _)
      | (with_reducible exact ih1 _ _ _ _)
      | (with_reducible exact treadleref12_piece.mono _ _ _)
      | (with_reducible exact LeO.refl _)
      | (with_reducible exact LeO.none _)
      | (with_reducible refine LeO.ite ?_ ?_)
      | (with_reducible refine LeO.bind ?_ (fun _ => ?_))
      | exact ih0 _ _ _
      | exact ih1 _ _ _ _
      | exact treadleref12_piece.mono _ _ _
      | exact LeO.none _
      | refine LeO.ite ?_ ?_
      | refine LeO.bind ?_ (fun _ => ?_)
theorem treadleref12_quoted.mono : ∀ a0 a1 k, LeO (treadleref12_quoted.f k a0 a1) (treadleref12_quoted.f (k + 1) a0 a1) := by
  intro a0 a1 k
  obtain ⟨ih0, ih1⟩ := treadleref12_quoted.mono_l k
  unfold treadleref12_quoted.f
  repeat' first
      | (with_reducible exact ih0 _ _ _)
      | (with_reducible exact ih1 _ _ _ _)
      | (with_reducible exact treadleref12_piece.mono _ _ _)
      | (with_reducible exact LeO.refl _)
      | (with_reducible exact LeO.none _)
      | (with_reducible refine LeO.ite ?_ ?_)
      | (with_reducible refine LeO.bind ?_ (fun _ => ?_))
      | exact ih0 _ _ _
      | exact ih1 _ _ _ _
      | exact treadleref12_piece.mono _ _ _
      | exact LeO.none _
      | refine LeO.ite ?_ ?_
      | refine LeO.bind ?_ (fun _ => ?_)
def treadleref12_Letter.f (a0 : Int) : Option (Bool) := if a0 = 95 then (some true) else (if a0 ≥ 97 then (if a0 ≤ 122 then (some true) else (if a0 ≥ 65 then (some (decide (a0 ≤ 90))) else (some false))) else (if a0 ≥ 65 then (some (decide (a0 ≤ 90))) else (some false)))
def treadleref12_sign.j0 : Nat → ByteArray → Int → Bool → Option (Int)
  | 0, _, _, _ => none
  | k + 1, x0, x1, x18 => if x18 = true then (some 2) else (if 0 ≤ x1 then (if x1 ≤ (wrap64 (x1 + 1)) then (if (wrap64 (x1 + 1)) ≤ (x0.size : Int) then ((treadleref12_among.f k (([(⟨#[40]⟩ : ByteArray), (⟨#[41]⟩ : ByteArray), (⟨#[123]⟩ : ByteArray), (⟨#[125]⟩ : ByteArray), (⟨#[44]⟩ : ByteArray), (⟨#[59]⟩ : ByteArray), (⟨#[58]⟩ : ByteArray), (⟨#[46]⟩ : ByteArray), (⟨#[61]⟩ : ByteArray), (⟨#[60]⟩ : ByteArray), (⟨#[62]⟩ : ByteArray), (⟨#[43]⟩ : ByteArray), (⟨#[45]⟩ : ByteArray), (⟨#[42]⟩ : ByteArray), (⟨#[47]⟩ : ByteArray), (⟨#[37]⟩ : ByteArray), (⟨#[33]⟩ : ByteArray), (⟨#[35]⟩ : ByteArray)] : List ByteArray)) (x0.extract (x1 : Int).toNat ((wrap64 (x1 + 1)) : Int).toNat)).bind fun t241 => (if t241 = true then (some 1) else (some 0))) else (none)) else (none)) else (none))
def treadleref12_sign.f (k : Nat) (a0 : ByteArray) (a1 : Int) : Option (Int) := if (wrap64 (a1 + 2)) ≤ (a0.size : Int) then (if 0 ≤ a1 then (if a1 ≤ (wrap64 (a1 + 2)) then ((treadleref12_among.f k (([(⟨#[61, 61]⟩ : ByteArray), (⟨#[33, 61]⟩ : ByteArray), (⟨#[60, 61]⟩ : ByteArray), (⟨#[62, 61]⟩ : ByteArray), (⟨#[43, 43]⟩ : ByteArray), (⟨#[38, 38]⟩ : ByteArray), (⟨#[124, 124]⟩ : ByteArray)] : List ByteArray)) (a0.extract (a1 : Int).toNat ((wrap64 (a1 + 2)) : Int).toNat)).bind fun t237 => (treadleref12_sign.j0 k a0 a1 t237)) else (none)) else (none)) else (treadleref12_sign.j0 k a0 a1 false)
theorem treadleref12_sign.mono_l : ∀ k, (∀ y0 y1 y2, LeO (treadleref12_sign.j0 k y0 y1 y2) (treadleref12_sign.j0 (k + 1) y0 y1 y2))
  | 0 => fun _ _ _ r h => by simp [treadleref12_sign.j0] at h
  | k + 1 => by
    have ih0 := treadleref12_sign.mono_l k
    · intro y0 y1 y2
      unfold treadleref12_sign.j0
      repeat' first
      | (with_reducible exact ih0 _ _ _)
      | (with_reducible exact treadleref12_among.mono _ _ _)
      | (with_reducible exact LeO.refl _)
      | (with_reducible exact LeO.none _)
      | (with_reducible refine LeO.ite ?_ ?_)
      | (with_reducible refine LeO.bind ?_ (fun _ => ?_))
      | exact ih0 _ _ _
      | exact treadleref12_among.mono _ _ _
      | exact LeO.none _
      | refine LeO.ite ?_ ?_
      | refine LeO.bind ?_ (fun _ => ?_)
theorem treadleref12_sign.mono : ∀ a0 a1 k, LeO (treadleref12_sign.f k a0 a1) (treadleref12_sign.f (k + 1) a0 a1) := by
  intro a0 a1 k
  have ih0 := treadleref12_sign.mono_l k
  unfold treadleref12_sign.f
  repeat' first
      | (with_reducible exact ih0 _ _ _)
      | (with_reducible exact treadleref12_among.mono _ _ _)
      | (with_reducible exact LeO.refl _)
      | (with_reducible exact LeO.none _)
      | (with_reducible refine LeO.ite ?_ ?_)
      | (with_reducible refine LeO.bind ?_ (fun _ => ?_))
      | exact ih0 _ _ _
      | exact treadleref12_among.mono _ _ _
      | exact LeO.none _
      | refine LeO.ite ?_ ?_
      | refine LeO.bind ?_ (fun _ => ?_)
mutual
def treadleref12_token.j1 : Nat → ByteArray → Int → Int → Option (Int × Int × Int × Int)
  | 0, _, _, _ => none
  | k + 1, x0, x1, x6 => if (wrap64 (x6 - x1)) > 32 then (some (0, x1, 0, 123)) else (if 0 ≤ x1 then (if x1 ≤ x6 then (if x6 ≤ (x0.size : Int) then ((treadleref12_Key.f k (x0.extract (x1 : Int).toNat (x6 : Int).toNat)).bind fun t246 => (if t246 = true then (some (4, x1, x6, 0)) else (some (1, x1, x6, 0)))) else (none)) else (none)) else (none))
def treadleref12_token.l0 : Nat → ByteArray → Int → Int → Option (Int × Int × Int × Int)
  | 0, _, _, _ => none
  | k + 1, x0, x1, x6 => if x6 < (x0.size : Int) then (if 0 ≤ x6 then ((treadleref12_Letter.f (bt x0 x6)).bind fun t244 => (if t244 = true then (treadleref12_token.l0 k x0 x1 (wrap64 (x6 + 1))) else ((treadleref12_Digit.f (bt x0 x6)).bind fun t245 => (if t245 = true then (treadleref12_token.l0 k x0 x1 (wrap64 (x6 + 1))) else (treadleref12_token.j1 k x0 x1 x6))))) else (none)) else (treadleref12_token.j1 k x0 x1 x6)
def treadleref12_token.j3 : Nat → ByteArray → Int → Int → Option (Int × Int × Int × Int)
  | 0, _, _, _ => none
  | k + 1, x0, x1, x6 => if 0 ≤ x1 then (if x1 ≤ x6 then (if x6 ≤ (x0.size : Int) then ((treadleref12_Number.f k (x0.extract (x1 : Int).toNat (x6 : Int).toNat)).bind fun bt249 => (if bt249.2 = 0 then (if x6 < (x0.size : Int) then (if 0 ≤ x6 then ((treadleref12_Letter.f (bt x0 x6)).bind fun t251 => (treadleref12_token.j4 k x1 x6 t251)) else (none)) else (treadleref12_token.j4 k x1 x6 false)) else (treadleref12_token.j4 k x1 x6 true))) else (none)) else (none)) else (none)
def treadleref12_token.j4 : Nat → Int → Int → Bool → Option (Int × Int × Int × Int)
  | 0, _, _, _ => none
  | k + 1, x1, x6, x98 => if x98 = true then (some (0, x1, 0, 121)) else (some (2, x1, x6, 0))
def treadleref12_token.l1 : Nat → ByteArray → Int → Int → Option (Int × Int × Int × Int)
  | 0, _, _, _ => none
  | k + 1, x0, x1, x6 => if x6 < (x0.size : Int) then (if 0 ≤ x6 then ((treadleref12_Digit.f (bt x0 x6)).bind fun t248 => (if t248 = true then (treadleref12_token.l1 k x0 x1 (wrap64 (x6 + 1))) else (treadleref12_token.j3 k x0 x1 x6))) else (none)) else (treadleref12_token.j3 k x0 x1 x6)
end
def treadleref12_token.f (k : Nat) (a0 : ByteArray) (a1 : Int) : Option (Int × Int × Int × Int) := if a1 = (a0.size : Int) then (some (0, a1, a1, 0)) else (if 0 ≤ a1 then (if a1 < (a0.size : Int) then ((treadleref12_Letter.f (bt a0 a1)).bind fun t243 => (if t243 = true then (treadleref12_token.l0 k a0 a1 a1) else ((treadleref12_Digit.f (bt a0 a1)).bind fun t247 => (if t247 = true then (treadleref12_token.l1 k a0 a1 a1) else (if (bt a0 a1) = 34 then ((treadleref12_quoted.f k a0 a1).bind fun bt252 => (if bt252.2 < 0 then (some (0, a1, 0, 122)) else (some (3, a1, bt252.2, 0)))) else ((treadleref12_sign.f k a0 a1).bind fun t254 => (if t254 = 0 then (some (0, a1, 0, 120)) else (some (5, a1, wrap64 (a1 + t254), 0))))))))) else (none)) else (none))
theorem treadleref12_token.mono_l : ∀ k, (∀ y0 y1 y2, LeO (treadleref12_token.j1 k y0 y1 y2) (treadleref12_token.j1 (k + 1) y0 y1 y2)) ∧ (∀ y0 y1 y2, LeO (treadleref12_token.l0 k y0 y1 y2) (treadleref12_token.l0 (k + 1) y0 y1 y2)) ∧ (∀ y0 y1 y2, LeO (treadleref12_token.j3 k y0 y1 y2) (treadleref12_token.j3 (k + 1) y0 y1 y2)) ∧ (∀ y0 y1 y2, LeO (treadleref12_token.j4 k y0 y1 y2) (treadleref12_token.j4 (k + 1) y0 y1 y2)) ∧ (∀ y0 y1 y2, LeO (treadleref12_token.l1 k y0 y1 y2) (treadleref12_token.l1 (k + 1) y0 y1 y2))
  | 0 => ⟨fun _ _ _ r h => by simp [treadleref12_token.j1] at h, fun _ _ _ r h => by simp [treadleref12_token.l0] at h, fun _ _ _ r h => by simp [treadleref12_token.j3] at h, fun _ _ _ r h => by simp [treadleref12_token.j4] at h, fun _ _ _ r h => by simp [treadleref12_token.l1] at h⟩
  | k + 1 => by
    obtain ⟨ih0, ih1, ih2, ih3, ih4⟩ := treadleref12_token.mono_l k
    refine ⟨?_, ?_, ?_, ?_, ?_⟩
    · intro y0 y1 y2
      unfold treadleref12_token.j1
      repeat' first
      | (with_reducible exact ih0 _ _ _)
      | (with_reducible exact ih1 _ _ _)
      | (with_reducible exact ih2 _ _ _)
      | (with_reducible exact ih3 _ _ _)
      | (with_reducible exact ih4 _ _ _)
      | (with_reducible exact treadleref12_Key.mono _ _)
      | (with_reducible exact treadleref12_Number.mono _ _)
      | (with_reducible exact treadleref12_quoted.mono _ _ _)
      | (with_reducible exact treadleref12_sign.mono _ _ _)
      | (with_reducible exact LeO.refl _)
      | (with_reducible exact LeO.none _)
      | (with_reducible refine LeO.ite ?_ ?_)
      | (with_reducible refine LeO.bind ?_ (fun _ => ?_))
      | exact ih0 _ _ _
      | exact ih1 _ _ _
      | exact ih2 _ _ _
      | exact ih3 _ _ _
      | exact ih4 _ _ _
      | exact treadleref12_Key.mono _ _
      | exact treadleref12_Number.mono _ _
      | exact treadleref12_quoted.mono _ _ _
      | exact treadleref12_sign.mono _ _ _
      | exact LeO.none _
      | refine LeO.ite ?_ ?_
      | refine LeO.bind ?_ (fun _ => ?_)
    · intro y0 y1 y2
      unfold treadleref12_token.l0
      repeat' first
      | (with_reducible exact ih0 _ _ _)
      | (with_reducible exact ih1 _ _ _)
      | (with_reducible exact ih2 _ _ _)
      | (with_reducible exact ih3 _ _ _)
      | (with_reducible exact ih4 _ _ _)
      | (with_reducible exact treadleref12_Key.mono _ _)
      | (with_reducible exact treadleref12_Number.mono _ _)
      | (with_reducible exact treadleref12_quoted.mono _ _ _)
      | (with_reducible exact treadleref12_sign.mono _ _ _)
      | (with_reducible exact LeO.refl _)
      | (with_reducible exact LeO.none _)
      | (with_reducible refine LeO.ite ?_ ?_)
      | (with_reducible refine LeO.bind ?_ (fun _ => ?_))
      | exact ih0 _ _ _
      | exact ih1 _ _ _
      | exact ih2 _ _ _
      | exact ih3 _ _ _
      | exact ih4 _ _ _
      | exact treadleref12_Key.mono _ _
      | exact treadleref12_Number.mono _ _
      | exact treadleref12_quoted.mono _ _ _
      | exact treadleref12_sign.mono _ _ _
      | exact LeO.none _
      | refine LeO.ite ?_ ?_
      | refine LeO.bind ?_ (fun _ => ?_)
    · intro y0 y1 y2
      unfold treadleref12_token.j3
      repeat' first
      | (with_reducible exact ih0 _ _ _)
      | (with_reducible exact ih1 _ _ _)
      | (with_reducible exact ih2 _ _ _)
      | (with_reducible exact ih3 _ _ _)
      | (with_reducible exact ih4 _ _ _)
      | (with_reducible exact treadleref12_Key.mono _ _)
      | (with_reducible exact treadleref12_Number.mono _ _)
      | (with_reducible exact treadleref12_quoted.mono _ _ _)
      | (with_reducible exact treadleref12_sign.mono _ _ _)
      | (with_reducible exact LeO.refl _)
      | (with_reducible exact LeO.none _)
      | (with_reducible refine LeO.ite ?_ ?_)
      | (with_reducible refine LeO.bind ?_ (fun _ => ?_))
      | exact ih0 _ _ _
      | exact ih1 _ _ _
      | exact ih2 _ _ _
      | exact ih3 _ _ _
      | exact ih4 _ _ _
      | exact treadleref12_Key.mono _ _
      | exact treadleref12_Number.mono _ _
      | exact treadleref12_quoted.mono _ _ _
      | exact treadleref12_sign.mono _ _ _
      | exact LeO.none _
      | refine LeO.ite ?_ ?_
      | refine LeO.bind ?_ (fun _ => ?_)
    · intro y0 y1 y2
      unfold treadleref12_token.j4
      repeat' first
      | (with_reducible exact ih0 _ _ _)
      | (with_reducible exact ih1 _ _ _)
      | (with_reducible exact ih2 _ _ _)
      | (with_reducible exact ih3 _ _ _)
      | (with_reducible exact ih4 _ _ _)
      | (with_reducible exact treadleref12_Key.mono _ _)
      | (with_reducible exact treadleref12_Number.mono _ _)
      | (with_reducible exact treadleref12_quoted.mono _ _ _)
      | (with_reducible exact treadleref12_sign.mono _ _ _)
      | (with_reducible exact LeO.refl _)
      | (with_reducible exact LeO.none _)
      | (with_reducible refine LeO.ite ?_ ?_)
      | (with_reducible refine LeO.bind ?_ (fun _ => ?_))
      | exact ih0 _ _ _
      | exact ih1 _ _ _
      | exact ih2 _ _ _
      | exact ih3 _ _ _
      | exact ih4 _ _ _
      | exact treadleref12_Key.mono _ _
      | exact treadleref12_Number.mono _ _
      | exact treadleref12_quoted.mono _ _ _
      | exact treadleref12_sign.mono _ _ _
      | exact LeO.none _
      | refine LeO.ite ?_ ?_
      | refine LeO.bind ?_ (fun _ => ?_)
    · intro y0 y1 y2
      unfold treadleref12_token.l1
      repeat' first
      | (with_reducible exact ih0 _ _ _)
      | (with_reducible exact ih1 _ _ _)
      | (with_reducible exact ih2 _ _ _)
      | (with_reducible exact ih3 _ _ _)
      | (with_reducible exact ih4 _ _ _)
      | (with_reducible exact treadleref12_Key.mono _ _)
      | (with_reducible exact treadleref12_Number.mono _ _)
      | (with_reducible exact treadleref12_quoted.mono _ _ _)
      | (with_reducible exact treadleref12_sign.mono _ _ _)
      | (with_reducible exact LeO.refl _)
      | (with_reducible exact LeO.none _)
      | (with_reducible refine LeO.ite ?_ ?_)
      | (with_reducible refine LeO.bind ?_ (fun _ => ?_))
      | exact ih0 _ _ _
      | exact ih1 _ _ _
      | exact ih2 _ _ _
      | exact ih3 _ _ _
      | exact ih4 _ _ _
      | exact treadleref12_Key.mono _ _
      | exact treadleref12_Number.mono _ _
      | exact treadleref12_quoted.mono _ _ _
      | exact treadleref12_sign.mono _ _ _
      | exact LeO.none _
      | refine LeO.ite ?_ ?_
      | refine LeO.bind ?_ (fun _ => ?_)
theorem treadleref12_token.mono : ∀ a0 a1 k, LeO (treadleref12_token.f k a0 a1) (treadleref12_token.f (k + 1) a0 a1) := by
  intro a0 a1 k
  obtain ⟨ih0, ih1, ih2, ih3, ih4⟩ := treadleref12_token.mono_l k
  unfold treadleref12_token.f
  repeat' first
      | (with_reducible exact ih0 _ _ _)
      | (with_reducible exact ih1 _ _ _)
      | (with_reducible exact ih2 _ _ _)
      | (with_reducible exact ih3 _ _ _)
      | (with_reducible exact ih4 _ _ _)
      | (with_reducible exact treadleref12_Key.mono _ _)
      | (with_reducible exact treadleref12_Number.mono _ _)
      | (with_reducible exact treadleref12_quoted.mono _ _ _)
      | (with_reducible exact treadleref12_sign.mono _ _ _)
      | (with_reducible exact LeO.refl _)
      | (with_reducible exact LeO.none _)
      | (with_reducible refine LeO.ite ?_ ?_)
      | (with_reducible refine LeO.bind ?_ (fun _ => ?_))
      | exact ih0 _ _ _
      | exact ih1 _ _ _
      | exact ih2 _ _ _
      | exact ih3 _ _ _
      | exact ih4 _ _ _
      | exact treadleref12_Key.mono _ _
      | exact treadleref12_Number.mono _ _
      | exact treadleref12_quoted.mono _ _ _
      | exact treadleref12_sign.mono _ _ _
      | exact LeO.none _
      | refine LeO.ite ?_ ?_
      | refine LeO.bind ?_ (fun _ => ?_)
def treadleref12_All.l0 : Nat → ByteArray → List (S24) → Int → Option ((List (S24)) × Int × Int)
  | 0, _, _, _ => none
  | k + 1, x0, x4, x5 => (treadleref12_Gap.f k x0 x5).bind fun t256 => ((treadleref12_token.f k x0 t256).bind fun bt257 => (if bt257.2.2.2 = 0 then (if x4.length < 5864062014805 then ((some (x4 ++ [(⟨bt257.1, bt257.2.1, bt257.2.2.1⟩ : S24)] : List (S24))).bind fun y262 => (if bt257.1 = 0 then (some (y262, 0, 0)) else (treadleref12_All.l0 k x0 y262 bt257.2.2.1))) else (none)) else (some (x4, bt257.2.2.2, bt257.2.1))))
def treadleref12_All.f (k : Nat) (a0 : ByteArray) : Option ((List (S24)) × Int × Int) := if (a0.size : Int) > 65536 then (some (([] : List (S24)), 3, 0)) else (treadleref12_All.l0 k a0 ([] : List (S24)) 0)
theorem treadleref12_All.mono_l : ∀ k, (∀ y0 y1 y2, LeO (treadleref12_All.l0 k y0 y1 y2) (treadleref12_All.l0 (k + 1) y0 y1 y2))
  | 0 => fun _ _ _ r h => by simp [treadleref12_All.l0] at h
  | k + 1 => by
    have ih0 := treadleref12_All.mono_l k
    · intro y0 y1 y2
      unfold treadleref12_All.l0
      repeat' first
      | (with_reducible exact ih0 _ _ _)
      | (with_reducible exact treadleref12_Gap.mono _ _ _)
      | (with_reducible exact treadleref12_token.mono _ _ _)
      | (with_reducible exact LeO.refl _)
      | (with_reducible exact LeO.none _)
      | (with_reducible refine LeO.ite ?_ ?_)
      | (with_reducible refine LeO.bind ?_ (fun _ => ?_))
      | exact ih0 _ _ _
      | exact treadleref12_Gap.mono _ _ _
      | exact treadleref12_token.mono _ _ _
      | exact LeO.none _
      | refine LeO.ite ?_ ?_
      | refine LeO.bind ?_ (fun _ => ?_)
theorem treadleref12_All.mono : ∀ a0 k, LeO (treadleref12_All.f k a0) (treadleref12_All.f (k + 1) a0) := by
  intro a0 k
  have ih0 := treadleref12_All.mono_l k
  unfold treadleref12_All.f
  repeat' first
      | (with_reducible exact ih0 _ _ _)
      | (with_reducible exact treadleref12_Gap.mono _ _ _)
      | (with_reducible exact treadleref12_token.mono _ _ _)
      | (with_reducible exact LeO.refl _)
      | (with_reducible exact LeO.none _)
      | (with_reducible refine LeO.ite ?_ ?_)
      | (with_reducible refine LeO.bind ?_ (fun _ => ?_))
      | exact ih0 _ _ _
      | exact treadleref12_Gap.mono _ _ _
      | exact treadleref12_token.mono _ _ _
      | exact LeO.none _
      | refine LeO.ite ?_ ?_
      | refine LeO.bind ?_ (fun _ => ?_)
def treadleref12_Filled.l0 : Nat → List Int → ByteArray → Int → Option (ByteArray)
  | 0, _, _, _ => none
  | k + 1, x0, x3, x4 => if x4 < (x0.length : Int) then (if 0 ≤ x4 then (if (Int.tmod (rd x0 x4) 6) = 0 then (if x3.size + 1 ≤ 9223372036854775807 then (treadleref12_Filled.l0 k x0 (x3 ++ (⟨#[32]⟩ : ByteArray)) (wrap64 (x4 + 1))) else (none)) else (if (Int.tmod (rd x0 x4) 6) = 1 then (if x3.size + 1 ≤ 9223372036854775807 then (treadleref12_Filled.l0 k x0 (x3 ++ (⟨#[9]⟩ : ByteArray)) (wrap64 (x4 + 1))) else (none)) else (if (Int.tmod (rd x0 x4) 6) = 2 then (if x3.size + 1 ≤ 9223372036854775807 then (treadleref12_Filled.l0 k x0 (x3 ++ (⟨#[10]⟩ : ByteArray)) (wrap64 (x4 + 1))) else (none)) else (if (Int.tmod (rd x0 x4) 6) = 3 then (if x3.size + 1 ≤ 9223372036854775807 then (treadleref12_Filled.l0 k x0 (x3 ++ (⟨#[13]⟩ : ByteArray)) (wrap64 (x4 + 1))) else (none)) else (if (Int.tmod (rd x0 x4) 6) = 4 then (if x3.size + 5 ≤ 9223372036854775807 then (treadleref12_Filled.l0 k x0 (x3 ++ (⟨#[47, 47, 32, 120, 10]⟩ : ByteArray)) (wrap64 (x4 + 1))) else (none)) else (if (Int.tmod (rd x0 x4) 6) = 5 then (if x3.size + 4 ≤ 9223372036854775807 then (treadleref12_Filled.l0 k x0 (x3 ++ (⟨#[47, 47, 34, 10]⟩ : ByteArray)) (wrap64 (x4 + 1))) else (none)) else (treadleref12_Filled.l0 k x0 x3 (wrap64 (x4 + 1))))))))) else (none)) else (if x3.size + 1 ≤ 9223372036854775807 then (some (x3 ++ (⟨#[32]⟩ : ByteArray))) else (none))
def treadleref12_Filled.f (k : Nat) (l0 : List Int) : Option (ByteArray) := treadleref12_Filled.l0 k l0 (⟨#[]⟩ : ByteArray) 0
theorem treadleref12_Filled.mono_l : ∀ k, (∀ y0 y1 y2, LeO (treadleref12_Filled.l0 k y0 y1 y2) (treadleref12_Filled.l0 (k + 1) y0 y1 y2))
  | 0 => fun _ _ _ r h => by simp [treadleref12_Filled.l0] at h
  | k + 1 => by
    have ih0 := treadleref12_Filled.mono_l k
    · intro y0 y1 y2
      unfold treadleref12_Filled.l0
      repeat' first
      | (with_reducible exact ih0 _ _ _)
      | (with_reducible exact LeO.refl _)
      | (with_reducible exact LeO.none _)
      | (with_reducible refine LeO.ite ?_ ?_)
      | (with_reducible refine LeO.bind ?_ (fun _ => ?_))
      | exact ih0 _ _ _
      | exact LeO.none _
      | refine LeO.ite ?_ ?_
      | refine LeO.bind ?_ (fun _ => ?_)
theorem treadleref12_Filled.mono : ∀ a0 k, LeO (treadleref12_Filled.f k a0) (treadleref12_Filled.f (k + 1) a0) := by
  intro a0 k
  have ih0 := treadleref12_Filled.mono_l k
  unfold treadleref12_Filled.f
  repeat' first
      | (with_reducible exact ih0 _ _ _)
      | (with_reducible exact LeO.refl _)
      | (with_reducible exact LeO.none _)
      | (with_reducible refine LeO.ite ?_ ?_)
      | (with_reducible refine LeO.bind ?_ (fun _ => ?_))
      | exact ih0 _ _ _
      | exact LeO.none _
      | refine LeO.ite ?_ ?_
      | refine LeO.bind ?_ (fun _ => ?_)
def treadleref12_Spread.l0 : Nat → ByteArray → List (List Int) → List (S24) → List Int → Int → Option (ByteArray × Bool)
  | 0, _, _, _, _, _ => none
  | k + 1, x0, x1, x6, x8, x9 => if x9 < (x6.length : Int) then (if x8.length < 140737488355328 then ((some (x8 ++ [32] : List Int)).bind fun y272 => (if (x1.length : Int) > 0 then (if (x1.length : Int) = 0 then (none) else (if 0 ≤ (Int.tmod x9 (x1.length : Int)) then (if (Int.tmod x9 (x1.length : Int)) < (x1.length : Int) then ((treadleref12_Filled.f k (rd_L4 x1 (Int.tmod x9 (x1.length : Int)))).bind fun t276 => (if y272.length + t276.size < 140737488355328 then ((some (y272 ++ bytesOf t276 : List Int)).bind fun y277 => (if 0 ≤ x9 then (if 0 ≤ ((rd_T24 x6 x9).f1) then (if ((rd_T24 x6 x9).f1) ≤ ((rd_T24 x6 x9).f2) then (if ((rd_T24 x6 x9).f2) ≤ (x0.size : Int) then (if y277.length + (x0.extract (((rd_T24 x6 x9).f1) : Int).toNat (((rd_T24 x6 x9).f2) : Int).toNat).size < 140737488355328 then ((some (y277 ++ bytesOf (x0.extract (((rd_T24 x6 x9).f1) : Int).toNat (((rd_T24 x6 x9).f2) : Int).toNat) : List Int)).bind fun y282 => (if (y282.length : Int) > 65536 then (some ((⟨#[]⟩ : ByteArray), false)) else (treadleref12_Spread.l0 k x0 x1 x6 y282 (wrap64 (x9 + 1))))) else (none)) else (none)) else (none)) else (none)) else (none))) else (none))) else (none)) else (none))) else (if 0 ≤ x9 then (if 0 ≤ ((rd_T24 x6 x9).f1) then (if ((rd_T24 x6 x9).f1) ≤ ((rd_T24 x6 x9).f2) then (if ((rd_T24 x6 x9).f2) ≤ (x0.size : Int) then (if y272.length + (x0.extract (((rd_T24 x6 x9).f1) : Int).toNat (((rd_T24 x6 x9).f2) : Int).toNat).size < 140737488355328 then ((some (y272 ++ bytesOf (x0.extract (((rd_T24 x6 x9).f1) : Int).toNat (((rd_T24 x6 x9).f2) : Int).toNat) : List Int)).bind fun y287 => (if (y287.length : Int) > 65536 then (some ((⟨#[]⟩ : ByteArray), false)) else (treadleref12_Spread.l0 k x0 x1 x6 y287 (wrap64 (x9 + 1))))) else (none)) else (none)) else (none)) else (none)) else (none)))) else (none)) else (some (strOfNums x8, true))
def treadleref12_Spread.f (k : Nat) (a0 : ByteArray) (l1 : List (List Int)) : Option (ByteArray × Bool) := (treadleref12_All.f k a0).bind fun bt266 => (if (!(bt266.2.1 == 0) || (!(bt266.2.2 == 0))) = true then (some ((⟨#[]⟩ : ByteArray), false)) else (treadleref12_Spread.l0 k a0 l1 bt266.1 ([] : List Int) 0))
theorem treadleref12_Spread.mono_l : ∀ k, (∀ y0 y1 y2 y3 y4, LeO (treadleref12_Spread.l0 k y0 y1 y2 y3 y4) (treadleref12_Spread.l0 (k + 1) y0 y1 y2 y3 y4))
  | 0 => fun _ _ _ _ _ r h => by simp [treadleref12_Spread.l0] at h
  | k + 1 => by
    have ih0 := treadleref12_Spread.mono_l k
    · intro y0 y1 y2 y3 y4
      unfold treadleref12_Spread.l0
      repeat' first
      | (with_reducible exact ih0 _ _ _ _ _)
      | (with_reducible exact treadleref12_All.mono _ _)
      | (with_reducible exact treadleref12_Filled.mono _ _)
      | (with_reducible exact LeO.refl _)
      | (with_reducible exact LeO.none _)
      | (with_reducible refine LeO.ite ?_ ?_)
      | (with_reducible refine LeO.bind ?_ (fun _ => ?_))
      | exact ih0 _ _ _ _ _
      | exact treadleref12_All.mono _ _
      | exact treadleref12_Filled.mono _ _
      | exact LeO.none _
      | refine LeO.ite ?_ ?_
      | refine LeO.bind ?_ (fun _ => ?_)
theorem treadleref12_Spread.mono : ∀ a0 a1 k, LeO (treadleref12_Spread.f k a0 a1) (treadleref12_Spread.f (k + 1) a0 a1) := by
  intro a0 a1 k
  have ih0 := treadleref12_Spread.mono_l k
  unfold treadleref12_Spread.f
  repeat' first
      | (with_reducible exact ih0 _ _ _ _ _)
      | (with_reducible exact treadleref12_All.mono _ _)
      | (with_reducible exact treadleref12_Filled.mono _ _)
      | (with_reducible exact LeO.refl _)
      | (with_reducible exact LeO.none _)
      | (with_reducible refine LeO.ite ?_ ?_)
      | (with_reducible refine LeO.bind ?_ (fun _ => ?_))
      | exact ih0 _ _ _ _ _
      | exact treadleref12_All.mono _ _
      | exact treadleref12_Filled.mono _ _
      | exact LeO.none _
      | refine LeO.ite ?_ ?_
      | refine LeO.bind ?_ (fun _ => ?_)
mutual
def treadlelaw12_LexSpreads.j0 : Nat → ByteArray → ByteArray → List (S24) → List (S24) → Bool → Option (Bool)
  | 0, _, _, _, _, _ => none
  | k + 1, x0, x5, x7, x9, x45 => if x45 = true then (some false) else (treadlelaw12_LexSpreads.l0 k x0 x5 x7 x9 0)
def treadlelaw12_LexSpreads.l0 : Nat → ByteArray → ByteArray → List (S24) → List (S24) → Int → Option (Bool)
  | 0, _, _, _, _, _ => none
  | k + 1, x0, x5, x7, x9, x11 => if x11 < (x7.length : Int) then (if 0 ≤ x11 then (if x11 < (x9.length : Int) then (if ((rd_T24 x7 x11).f0) = ((rd_T24 x9 x11).f0) then (if 0 ≤ ((rd_T24 x7 x11).f1) then (if ((rd_T24 x7 x11).f1) ≤ ((rd_T24 x7 x11).f2) then (if ((rd_T24 x7 x11).f2) ≤ (x0.size : Int) then (if 0 ≤ ((rd_T24 x9 x11).f1) then (if ((rd_T24 x9 x11).f1) ≤ ((rd_T24 x9 x11).f2) then (if ((rd_T24 x9 x11).f2) ≤ (x5.size : Int) then (if (x0.extract (((rd_T24 x7 x11).f1) : Int).toNat (((rd_T24 x7 x11).f2) : Int).toNat).toList = (x5.extract (((rd_T24 x9 x11).f1) : Int).toNat (((rd_T24 x9 x11).f2) : Int).toNat).toList then (treadlelaw12_LexSpreads.l0 k x0 x5 x7 x9 (wrap64 (x11 + 1))) else (some false)) else (none)) else (none)) else (none)) else (none)) else (none)) else (none)) else (some false)) else (none)) else (none)) else ((treadlelaw12_awake.f k).bind fun t311 => (some t311))
end
def treadlelaw12_LexSpreads.f (k : Nat) (a0 : ByteArray) (l1 : List (List Int)) : Option (Bool) := (treadleref12_Spread.f k a0 l1).bind fun bt290 => ((lex_All.f k a0).bind fun bt292 => (if bt290.2 = true then ((lex_All.f k bt290.1).bind fun bt299 => (if (!(bt292.2.1 == 0) || (!(bt292.2.2 == 0))) = true then (treadlelaw12_LexSpreads.j0 k a0 bt290.1 bt292.1 bt299.1 true) else (if (!(bt299.2.1 == 0) || (!(bt299.2.2 == 0))) = true then (treadlelaw12_LexSpreads.j0 k a0 bt290.1 bt292.1 bt299.1 true) else (treadlelaw12_LexSpreads.j0 k a0 bt290.1 bt292.1 bt299.1 ((bt292.1.length : Int) != (bt299.1.length : Int)))))) else ((treadlelaw12_awake.f k).bind fun t298 => (some t298))))
theorem treadlelaw12_LexSpreads.mono_l : ∀ k, (∀ y0 y1 y2 y3 y4, LeO (treadlelaw12_LexSpreads.j0 k y0 y1 y2 y3 y4) (treadlelaw12_LexSpreads.j0 (k + 1) y0 y1 y2 y3 y4)) ∧ (∀ y0 y1 y2 y3 y4, LeO (treadlelaw12_LexSpreads.l0 k y0 y1 y2 y3 y4) (treadlelaw12_LexSpreads.l0 (k + 1) y0 y1 y2 y3 y4))
  | 0 => ⟨fun _ _ _ _ _ r h => by simp [treadlelaw12_LexSpreads.j0] at h, fun _ _ _ _ _ r h => by simp [treadlelaw12_LexSpreads.l0] at h⟩
  | k + 1 => by
    obtain ⟨ih0, ih1⟩ := treadlelaw12_LexSpreads.mono_l k
    refine ⟨?_, ?_⟩
    · intro y0 y1 y2 y3 y4
      unfold treadlelaw12_LexSpreads.j0
      repeat' first
      | (with_reducible exact ih0 _ _ _ _ _)
      | (with_reducible exact ih1 _ _ _ _ _)
      | (with_reducible exact lex_All.mono _ _)
      | (with_reducible exact treadlelaw12_awake.mono _)
      | (with_reducible exact treadleref12_Spread.mono _ _ _)
      | (with_reducible exact LeO.refl _)
      | (with_reducible exact LeO.none _)
      | (with_reducible refine LeO.ite ?_ ?_)
      | (with_reducible refine LeO.bind ?_ (fun _ => ?_))
      | exact ih0 _ _ _ _ _
      | exact ih1 _ _ _ _ _
      | exact lex_All.mono _ _
      | exact treadlelaw12_awake.mono _
      | exact treadleref12_Spread.mono _ _ _
      | exact LeO.none _
      | refine LeO.ite ?_ ?_
      | refine LeO.bind ?_ (fun _ => ?_)
    · intro y0 y1 y2 y3 y4
      unfold treadlelaw12_LexSpreads.l0
      repeat' first
      | (with_reducible exact ih0 _ _ _ _ _)
      | (with_reducible exact ih1 _ _ _ _ _)
      | (with_reducible exact lex_All.mono _ _)
      | (with_reducible exact treadlelaw12_awake.mono _)
      | (with_reducible exact treadleref12_Spread.mono _ _ _)
      | (with_reducible exact LeO.refl _)
      | (with_reducible exact LeO.none _)
      | (with_reducible refine LeO.ite ?_ ?_)
      | (with_reducible refine LeO.bind ?_ (fun _ => ?_))
      | exact ih0 _ _ _ _ _
      | exact ih1 _ _ _ _ _
      | exact lex_All.mono _ _
      | exact treadlelaw12_awake.mono _
      | exact treadleref12_Spread.mono _ _ _
      | exact LeO.none _
      | refine LeO.ite ?_ ?_
      | refine LeO.bind ?_ (fun _ => ?_)
theorem treadlelaw12_LexSpreads.mono : ∀ a0 a1 k, LeO (treadlelaw12_LexSpreads.f k a0 a1) (treadlelaw12_LexSpreads.f (k + 1) a0 a1) := by
  intro a0 a1 k
  obtain ⟨ih0, ih1⟩ := treadlelaw12_LexSpreads.mono_l k
  unfold treadlelaw12_LexSpreads.f
  repeat' first
      | (with_reducible exact ih0 _ _ _ _ _)
      | (with_reducible exact ih1 _ _ _ _ _)
      | (with_reducible exact lex_All.mono _ _)
      | (with_reducible exact treadlelaw12_awake.mono _)
      | (with_reducible exact treadleref12_Spread.mono _ _ _)
      | (with_reducible exact LeO.refl _)
      | (with_reducible exact LeO.none _)
      | (with_reducible refine LeO.ite ?_ ?_)
      | (with_reducible refine LeO.bind ?_ (fun _ => ?_))
      | exact ih0 _ _ _ _ _
      | exact ih1 _ _ _ _ _
      | exact lex_All.mono _ _
      | exact treadlelaw12_awake.mono _
      | exact treadleref12_Spread.mono _ _ _
      | exact LeO.none _
      | refine LeO.ite ?_ ?_
      | refine LeO.bind ?_ (fun _ => ?_)
def treadleref12_Next.j0 : Nat → ByteArray → Int → Bool → Option (Int × Int × Int × Int)
  | 0, _, _, _ => none
  | k + 1, x0, x1, x17 => if x17 = true then (some (0, 0, 0, 1)) else ((treadleref12_Gap.f k x0 x1).bind fun t313 => ((treadleref12_token.f k x0 t313).bind fun bt314 => (some (bt314.1, bt314.2.1, bt314.2.2.1, bt314.2.2.2))))
def treadleref12_Next.f (k : Nat) (a0 : ByteArray) (a1 : Int) : Option (Int × Int × Int × Int) := if (a0.size : Int) > 65536 then (some (0, 0, 0, 3)) else (if a1 < 0 then (treadleref12_Next.j0 k a0 a1 true) else (treadleref12_Next.j0 k a0 a1 (decide (a1 > (a0.size : Int)))))
theorem treadleref12_Next.mono_l : ∀ k, (∀ y0 y1 y2, LeO (treadleref12_Next.j0 k y0 y1 y2) (treadleref12_Next.j0 (k + 1) y0 y1 y2))
  | 0 => fun _ _ _ r h => by simp [treadleref12_Next.j0] at h
  | k + 1 => by
    have ih0 := treadleref12_Next.mono_l k
    · intro y0 y1 y2
      unfold treadleref12_Next.j0
      repeat' first
      | (with_reducible exact ih0 _ _ _)
      | (with_reducible exact treadleref12_Gap.mono _ _ _)
      | (with_reducible exact treadleref12_token.mono _ _ _)
      | (with_reducible exact LeO.refl _)
      | (with_reducible exact LeO.none _)
      | (with_reducible refine LeO.ite ?_ ?_)
      | (with_reducible refine LeO.bind ?_ (fun _ => ?_))
      | exact ih0 _ _ _
      | exact treadleref12_Gap.mono _ _ _
      | exact treadleref12_token.mono _ _ _
      | exact LeO.none _
      | refine LeO.ite ?_ ?_
      | refine LeO.bind ?_ (fun _ => ?_)
theorem treadleref12_Next.mono : ∀ a0 a1 k, LeO (treadleref12_Next.f k a0 a1) (treadleref12_Next.f (k + 1) a0 a1) := by
  intro a0 a1 k
  have ih0 := treadleref12_Next.mono_l k
  unfold treadleref12_Next.f
  repeat' first
      | (with_reducible exact ih0 _ _ _)
      | (with_reducible exact treadleref12_Gap.mono _ _ _)
      | (with_reducible exact treadleref12_token.mono _ _ _)
      | (with_reducible exact LeO.refl _)
      | (with_reducible exact LeO.none _)
      | (with_reducible refine LeO.ite ?_ ?_)
      | (with_reducible refine LeO.bind ?_ (fun _ => ?_))
      | exact ih0 _ _ _
      | exact treadleref12_Gap.mono _ _ _
      | exact treadleref12_token.mono _ _ _
      | exact LeO.none _
      | refine LeO.ite ?_ ?_
      | refine LeO.bind ?_ (fun _ => ?_)
def treadlelaw12_LexNexts.f (k : Nat) (a0 : ByteArray) (a1 : Int) : Option (Bool) := (lex_Next.f k a0 a1).bind fun bt318 => ((treadleref12_Next.f k a0 a1).bind fun bt323 => (if (bt318.1 == bt323.1 && (bt318.2.1 == bt323.2.1 && (bt318.2.2.1 == bt323.2.2.1))) = true then (if bt318.2.2.2 = bt323.2.2.2 then ((treadlelaw12_awake.f k).bind fun t328 => (some t328)) else (some false)) else (some false)))
theorem treadlelaw12_LexNexts.mono : ∀ a0 a1 k, LeO (treadlelaw12_LexNexts.f k a0 a1) (treadlelaw12_LexNexts.f (k + 1) a0 a1) := by
  intro a0 a1 k
  unfold treadlelaw12_LexNexts.f
  repeat' first
      | (with_reducible exact lex_Next.mono _ _ _)
      | (with_reducible exact treadlelaw12_awake.mono _)
      | (with_reducible exact treadleref12_Next.mono _ _ _)
      | (with_reducible exact LeO.refl _)
      | (with_reducible exact LeO.none _)
      | (with_reducible refine LeO.ite ?_ ?_)
      | (with_reducible refine LeO.bind ?_ (fun _ => ?_))
      | exact lex_Next.mono _ _ _
      | exact treadlelaw12_awake.mono _
      | exact treadleref12_Next.mono _ _ _
      | exact LeO.none _
      | refine LeO.ite ?_ ?_
      | refine LeO.bind ?_ (fun _ => ?_)
def treadleref12_Same.l0 : Nat → List (S24) → List (S24) → Int → Option (Bool)
  | 0, _, _, _ => none
  | k + 1, x0, x1, x5 => if x5 < (x0.length : Int) then (if 0 ≤ x5 then (if x5 < (x1.length : Int) then (if (!(((rd_T24 x0 x5).f0) == ((rd_T24 x1 x5).f0)) || (!(((rd_T24 x0 x5).f1) == ((rd_T24 x1 x5).f1)) || (!(((rd_T24 x0 x5).f2) == ((rd_T24 x1 x5).f2))))) = true then (some false) else (treadleref12_Same.l0 k x0 x1 (wrap64 (x5 + 1)))) else (none)) else (none)) else (some true)
def treadleref12_Same.f (k : Nat) (l0 : List (S24)) (l1 : List (S24)) : Option (Bool) := if (l0.length : Int) = (l1.length : Int) then (treadleref12_Same.l0 k l0 l1 0) else (some false)
theorem treadleref12_Same.mono_l : ∀ k, (∀ y0 y1 y2, LeO (treadleref12_Same.l0 k y0 y1 y2) (treadleref12_Same.l0 (k + 1) y0 y1 y2))
  | 0 => fun _ _ _ r h => by simp [treadleref12_Same.l0] at h
  | k + 1 => by
    have ih0 := treadleref12_Same.mono_l k
    · intro y0 y1 y2
      unfold treadleref12_Same.l0
      repeat' first
      | (with_reducible exact ih0 _ _ _)
      | (with_reducible exact LeO.refl _)
      | (with_reducible exact LeO.none _)
      | (with_reducible refine LeO.ite ?_ ?_)
      | (with_reducible refine LeO.bind ?_ (fun _ => ?_))
      | exact ih0 _ _ _
      | exact LeO.none _
      | refine LeO.ite ?_ ?_
      | refine LeO.bind ?_ (fun _ => ?_)
theorem treadleref12_Same.mono : ∀ a0 a1 k, LeO (treadleref12_Same.f k a0 a1) (treadleref12_Same.f (k + 1) a0 a1) := by
  intro a0 a1 k
  have ih0 := treadleref12_Same.mono_l k
  unfold treadleref12_Same.f
  repeat' first
      | (with_reducible exact ih0 _ _ _)
      | (with_reducible exact LeO.refl _)
      | (with_reducible exact LeO.none _)
      | (with_reducible refine LeO.ite ?_ ?_)
      | (with_reducible refine LeO.bind ?_ (fun _ => ?_))
      | exact ih0 _ _ _
      | exact LeO.none _
      | refine LeO.ite ?_ ?_
      | refine LeO.bind ?_ (fun _ => ?_)
def treadlelaw12_LexAlls.f (k : Nat) (a0 : ByteArray) : Option (Bool) := (lex_All.f k a0).bind fun bt331 => ((treadleref12_All.f k a0).bind fun bt337 => (if (!(bt331.2.1 == bt337.2.1) || (!(bt331.2.2 == bt337.2.2))) = true then (some false) else (if (!(bt337.2.1 == 0) || (!(bt337.2.2 == 0))) = true then (if (bt331.1.length : Int) = 0 then ((treadlelaw12_awake.f k).bind fun t343 => (some t343)) else (some false)) else ((treadleref12_Same.f k bt331.1 bt337.1).bind fun t344 => (if t344 = true then ((treadlelaw12_awake.f k).bind fun t345 => (some t345)) else (some false))))))
theorem treadlelaw12_LexAlls.mono : ∀ a0 k, LeO (treadlelaw12_LexAlls.f k a0) (treadlelaw12_LexAlls.f (k + 1) a0) := by
  intro a0 k
  unfold treadlelaw12_LexAlls.f
  repeat' first
      | (with_reducible exact lex_All.mono _ _)
      | (with_reducible exact treadlelaw12_awake.mono _)
      | (with_reducible exact treadleref12_All.mono _ _)
      | (with_reducible exact treadleref12_Same.mono _ _ _)
      | (with_reducible exact LeO.refl _)
      | (with_reducible exact LeO.none _)
      | (with_reducible refine LeO.ite ?_ ?_)
      | (with_reducible refine LeO.bind ?_ (fun _ => ?_))
      | exact lex_All.mono _ _
      | exact treadlelaw12_awake.mono _
      | exact treadleref12_All.mono _ _
      | exact treadleref12_Same.mono _ _ _
      | exact LeO.none _
      | refine LeO.ite ?_ ?_
      | refine LeO.bind ?_ (fun _ => ?_)
end Go.Proofs.YtflmcglppeehgaaDoor.P
