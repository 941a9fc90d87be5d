-- Written by wip/tools/pp.py of this session's repo: the kit's print, driven with given contracts. Lean checks it.
import Derived.Test.YtflmcglppeehgaaDoorP0
namespace Go.Proofs.YtflmcglppeehgaaDoor.P
open Go.RowKit Go.Proofs.YtflmcglppeehgaaDoorW.PrintWords Go.Proofs.YtflmcglppeehgaaDoorW.PrintLast Go.Proofs.YtflmcglppeehgaaDoorW.PrintMore
attribute [local go_sem] max2_int min2_int max_two min_two max_three min_three max_four min_four   -- for this text's walks alone
set_option linter.unusedVariables false
set_option linter.unusedSimpArgs false

theorem ownBlock_nf (A : Option Addr) (n c : Nat) : (Value.slice A n c).ownBlock = A.map (·.block) := by cases A <;> rfl
theorem bool_eq1 : ∀ a b : Bool, (a == b) = !(a != b) := by decide

/-! ### stringslite_IndexByte: function 66 -/
def stringslite_IndexByte.f (a0 : ByteArray) (a1 : Int) : Option (Int) := some (Lib.indexByte a0.data.toList a1.toNat.toUInt8)

/-! ### strings_IndexByte: function 48 -/
def strings_IndexByte.f (a0 : ByteArray) (a1 : Int) : Option (Int) := (stringslite_IndexByte.f a0 a1).bind fun t101 => (some t101)

/-! ### stringslite_HasPrefix: function 67 -/
def stringslite_HasPrefix.f (a0 : ByteArray) (a1 : ByteArray) : Option (Bool) := if (a0.size : Int) ≥ (a1.size : Int) then (if 0 ≤ (a1.size : Int) then (if (a1.size : Int) ≤ (a0.size : Int) then (some ((a0.extract 0 ((a1.size : Int) : Int).toNat).toList == a1.toList)) else (none)) else (none)) else (some false)

/-! ### strings_HasPrefix: function 49 -/
def strings_HasPrefix.f (a0 : ByteArray) (a1 : ByteArray) : Option (Bool) := (stringslite_HasPrefix.f a0 a1).bind fun t102 => (some t102)

/-! ### lex_run: function 50 -/
/-- the functions that are handed to run, by number -/
def isLetter (c : Int) : Bool := decide (c = 95) || (decide (97 ≤ c) && decide (c ≤ 122)) || (decide (65 ≤ c) && decide (c ≤ 90))
def isDigit (c : Int) : Bool := decide (48 ≤ c) && decide (c ≤ 57)
def fnP (m : Nat) : Option (Int → Bool) :=
  if m = 51 then some (fun c => decide (c ≠ 10))
  else if m = 53 then some (fun c => isLetter c || isDigit c)
  else if m = 54 then some isDigit
  else none
def lex_run.f (a0 : ByteArray) (a1 : Int) (a2 : Nat) : Option (Int) :=
  if 0 ≤ a1 ∧ a1 ≤ a0.size ∧ a0.size ≤ 1099511627776 then (fnP a2).map (fun p => (((a0.data.toList.drop a1.toNat).takeWhile (fun c => p (c.toNat : Int))).length : Int)) else none

/-! ### lex_gap: function 34 -/
def lex_gap.l0 : Nat → ByteArray → Int → Option (Int)
  | 0, _, _ => none
  | k + 1, x0, x1 => if x1 < (x0.size : Int) then (if 0 ≤ x1 then ((strings_IndexByte.f (⟨#[32, 9, 10, 13]⟩ : ByteArray) (bt x0 x1)).bind fun t103 => (if t103 ≥ 0 then (lex_gap.l0 k x0 (wrap64 (x1 + 1))) else (if x1 ≤ (x0.size : Int) then ((strings_HasPrefix.f (x0.extract (x1 : Int).toNat x0.size) (⟨#[47, 47]⟩ : ByteArray)).bind fun t104 => (if t104 = true then ((lex_run.f x0 x1 51).bind fun t105 => (lex_gap.l0 k x0 (wrap64 (x1 + t105)))) else (some x1))) else (none)))) else (none)) else (some x1)
def lex_gap.f (k : Nat) (a0 : ByteArray) (a1 : Int) : Option (Int) := lex_gap.l0 k a0 a1
theorem lex_gap.mono_l : ∀ k, (∀ y0 y1, LeO (lex_gap.l0 k y0 y1) (lex_gap.l0 (k + 1) y0 y1))
  | 0 => fun _ _ r h => by simp [lex_gap.l0] at h
  | k + 1 => by
    have ih0 := lex_gap.mono_l k
    · intro y0 y1
      unfold lex_gap.l0
      repeat' first
      | (with_reducible exact ih0 _ _)
      | (with_reducible exact LeO.refl _)
      | (with_reducible exact LeO.none _)
      | (with_reducible refine LeO.ite ?_ ?_)
      | (with_reducible refine LeO.bind ?_ (fun _ => ?_))
      | exact ih0 _ _
      | exact LeO.none _
      | refine LeO.ite ?_ ?_
      | refine LeO.bind ?_ (fun _ => ?_)
theorem lex_gap.mono : ∀ a0 a1 k, LeO (lex_gap.f k a0 a1) (lex_gap.f (k + 1) a0 a1) := by
  intro a0 a1 k
  have ih0 := lex_gap.mono_l k
  unfold lex_gap.f
  repeat' first
      | (with_reducible exact ih0 _ _)
      | (with_reducible exact LeO.refl _)
      | (with_reducible exact LeO.none _)
      | (with_reducible refine LeO.ite ?_ ?_)
      | (with_reducible refine LeO.bind ?_ (fun _ => ?_))
      | exact ih0 _ _
      | exact LeO.none _
      | refine LeO.ite ?_ ?_
      | refine LeO.bind ?_ (fun _ => ?_)

/-! ### lex_Key: function 28 -/
/-- the keys' texts -/
def keyTexts : List (List UInt8) := [[105, 110, 99, 108, 117, 100, 101], [97, 115], [101, 120, 112, 111, 114, 116], [99, 111, 110, 115, 116], [102, 117, 110, 99], [118, 97, 114], [105, 102], [101, 108, 115, 101], [119, 104, 105, 108, 101], [114, 101, 116, 117, 114, 110], [112, 114, 105, 110, 116], [116, 114, 117, 101], [102, 97, 108, 115, 101], [105, 110, 116], [98, 111, 111, 108], [116, 101, 120, 116]]
def lex_Key.f (a0 : ByteArray) : Option (Bool) := some (decide (a0.data.toList ∈ keyTexts))

/-! ### lex_whole: function 39 -/
/-- of a text that begins with a digit: the number, and whether it is one that may be -/
def lex_whole.f (a0 : ByteArray) : Option (Int × Bool) :=
  match a0.data.toList with
  | [] => none
  | c :: _ => if isDigit (c.toNat : Int) = true ∧ a0.size ≤ 1099511627776 then
      match Lib.parseIntB 64 a0.data.toList with
      | .ok v => some (v, decide (Lib.itoa v = a0.data.toList))
      | .range => some (9223372036854775807, false)
      | .syntax => none
    else none

/-! ### lex_digit: function 54 -/
def lex_digit.f (a0 : Int) : Option (Bool) := if a0 ≥ 48 then (some (decide (a0 ≤ 57))) else (some false)

/-! ### lex_nibble: function 71 -/
def lex_nibble.f (a0 : Int) : Option (Int) := (lex_digit.f a0).bind fun t106 => (if t106 = true then (some ((a0 - 48) % 256)) else (if a0 ≥ 97 then (if a0 ≤ 102 then (some (((a0 - 97) % 256) + 10)) else (some (-1))) else (some (-1))))

/-! ### lex_piece: function 60 -/
mutual
def lex_piece.j0 : Nat → ByteArray → Bool → Option (Int × Int)
  | 0, _, _ => none
  | k + 1, x0, x4 => if x4 = true then (some (0, 0)) else (if 0 < (x0.size : Int) then (if (bt x0 0) = 92 then (if (x0.size : Int) < 2 then (some (0, 0)) else (if 1 < (x0.size : Int) then (if (bt x0 1) = 110 then (some (10, 2)) else (if (bt x0 1) = 116 then (some (9, 2)) else (if (bt x0 1) = 34 then (lex_piece.j1 k x0 (bt x0 1) ((bt x0 1) == 34)) else (lex_piece.j1 k x0 (bt x0 1) ((bt x0 1) == 92))))) else (none))) else (some (bt x0 0, 1))) else (none))
def lex_piece.j1 : Nat → ByteArray → Int → Bool → Option (Int × Int)
  | 0, _, _, _ => none
  | k + 1, x0, x33, x38 => if x38 = true then (if 1 < (x0.size : Int) then (some (bt x0 1, 2)) else (none)) else (if x33 = 120 then (if (x0.size : Int) ≥ 4 then (if 2 < (x0.size : Int) then ((lex_nibble.f (bt x0 2)).bind fun t107 => (if t107 ≥ 0 then (if 3 < (x0.size : Int) then ((lex_nibble.f (bt x0 3)).bind fun t108 => (lex_piece.j2 k x0 (decide (t108 ≥ 0)))) else (none)) else (lex_piece.j2 k x0 false))) else (none)) else (lex_piece.j2 k x0 false)) else (some (0, 0)))
def lex_piece.j2 : Nat → ByteArray → Bool → Option (Int × Int)
  | 0, _, _ => none
  | k + 1, x0, x59 => if x59 = true then (if 2 < (x0.size : Int) then ((lex_nibble.f (bt x0 2)).bind fun t109 => (if 3 < (x0.size : Int) then ((lex_nibble.f (bt x0 3)).bind fun t110 => (some ((Go.bits .or .i64 (wrap64 (t109 * 16)) t110) % 256, 4))) else (none))) else (none)) else (some (0, 0))
end
def lex_piece.f (k : Nat) (a0 : ByteArray) : Option (Int × Int) := if a0.toList = ([] : List UInt8) then (lex_piece.j0 k a0 true) else (if 0 < (a0.size : Int) then (if (bt a0 0) < 32 then (lex_piece.j0 k a0 true) else (if (bt a0 0) > 126 then (lex_piece.j0 k a0 true) else (lex_piece.j0 k a0 ((bt a0 0) == 34)))) else (none))
theorem lex_piece.mono_l : ∀ k, (∀ y0 y1, LeO (lex_piece.j0 k y0 y1) (lex_piece.j0 (k + 1) y0 y1)) ∧ (∀ y0 y1 y2, LeO (lex_piece.j1 k y0 y1 y2) (lex_piece.j1 (k + 1) y0 y1 y2)) ∧ (∀ y0 y1, LeO (lex_piece.j2 k y0 y1) (lex_piece.j2 (k + 1) y0 y1))
  | 0 => ⟨fun _ _ r h => by simp [lex_piece.j0] at h, fun _ _ _ r h => by simp [lex_piece.j1] at h, fun _ _ r h => by simp [lex_piece.j2] at h⟩
  | k + 1 => by
    obtain ⟨ih0, ih1, ih2⟩ := lex_piece.mono_l k
    refine ⟨?_, ?_, ?_⟩
    · intro y0 y1
      unfold lex_piece.j0
      repeat' first
      | (with_reducible exact ih0 _ _)
      | (with_reducible exact ih1 _ _ _)
      | (with_reducible exact ih2 _ _)
      | (with_reducible exact LeO.refl _)
      | (with_reducible exact LeO.none _)
      | (with_reducible refine LeO.ite ?_ ?_)
      | (with_reducible refine LeO.bind ?_ (fun _ => ?_))
      | exact ih0 _ _
      | exact ih1 _ _ _
      | exact ih2 _ _
      | exact LeO.none _
      | refine LeO.ite ?_ ?_
      | refine LeO.bind ?_ (fun _ => ?_)
    · intro y0 y1 y2
      unfold lex_piece.j1
      repeat' first
      | (with_reducible exact ih0 _ _)
      | (with_reducible exact ih1 _ _ _)
      | (with_reducible exact ih2 _ _)
      | (with_reducible exact LeO.refl _)
      | (with_reducible exact LeO.none _)
      | (with_reducible refine LeO.ite ?_ ?_)
      | (with_reducible refine LeO.bind ?_ (fun _ => ?_))
      | exact ih0 _ _
      | exact ih1 _ _ _
      | exact ih2 _ _
      | exact LeO.none _
      | refine LeO.ite ?_ ?_
      | refine LeO.bind ?_ (fun _ => ?_)
    · intro y0 y1
      unfold lex_piece.j2
      repeat' first
      | (with_reducible exact ih0 _ _)
      | (with_reducible exact ih1 _ _ _)
      | (with_reducible exact ih2 _ _)
      | (with_reducible exact LeO.refl _)
      | (with_reducible exact LeO.none _)
      | (with_reducible refine LeO.ite ?_ ?_)
      | (with_reducible refine LeO.bind ?_ (fun _ => ?_))
      | exact ih0 _ _
      | exact ih1 _ _ _
      | exact ih2 _ _
      | exact LeO.none _
      | refine LeO.ite ?_ ?_
      | refine LeO.bind ?_ (fun _ => ?_)
theorem lex_piece.mono : ∀ a0 k, LeO (lex_piece.f k a0) (lex_piece.f (k + 1) a0) := by
  intro a0 k
  obtain ⟨ih0, ih1, ih2⟩ := lex_piece.mono_l k
  unfold lex_piece.f
  repeat' first
      | (with_reducible exact ih0 _ _)
      | (with_reducible exact ih1 _ _ _)
      | (with_reducible exact ih2 _ _)
      | (with_reducible exact LeO.refl _)
      | (with_reducible exact LeO.none _)
      | (with_reducible refine LeO.ite ?_ ?_)
      | (with_reducible refine LeO.bind ?_ (fun _ => ?_))
      | exact ih0 _ _
      | exact ih1 _ _ _
      | exact ih2 _ _
      | exact LeO.none _
      | refine LeO.ite ?_ ?_
      | refine LeO.bind ?_ (fun _ => ?_)

/-! ### lex_quoted: function 41 -/
mutual
def lex_quoted.j0 : Nat → ByteArray → Bool → Option (ByteArray × Int)
  | 0, _, _ => none
  | k + 1, x0, x14 => if x14 = true then (some ((⟨#[]⟩ : ByteArray), 0)) else (lex_quoted.l0 k x0 ([] : List Int) 1)
def lex_quoted.l0 : Nat → ByteArray → List Int → Int → Option (ByteArray × Int)
  | 0, _, _, _ => none
  | k + 1, x0, x4, x5 => if x5 < (x0.size : Int) then (if 0 ≤ x5 then (lex_quoted.j2 k x0 x4 x5 ((bt x0 x5) != 34)) else (none)) else (lex_quoted.j2 k x0 x4 x5 false)
def lex_quoted.j2 : Nat → ByteArray → List Int → Int → Bool → Option (ByteArray × Int)
  | 0, _, _, _, _ => none
  | k + 1, x0, x4, x5, x24 => if x24 = true then (if 0 ≤ x5 then (if x5 ≤ (x0.size : Int) then ((lex_piece.f k (x0.extract (x5 : Int).toNat x0.size)).bind fun bt111 => (if bt111.2 = 0 then (some ((⟨#[]⟩ : ByteArray), 0)) else (if (x4.length : Int) ≥ 4096 then (some ((⟨#[]⟩ : ByteArray), 0)) else (if x4.length < 140737488355328 then (lex_quoted.l0 k x0 (x4 ++ [bt111.1]) (wrap64 (x5 + bt111.2))) else (none))))) else (none)) else (none)) else (if x5 ≥ (x0.size : Int) then (some ((⟨#[]⟩ : ByteArray), 0)) else (some (strOfNums x4, wrap64 (x5 + 1))))
end
def lex_quoted.f (k : Nat) (a0 : ByteArray) : Option (ByteArray × Int) := if a0.toList = ([] : List UInt8) then (lex_quoted.j0 k a0 true) else (if 0 < (a0.size : Int) then (lex_quoted.j0 k a0 ((bt a0 0) != 34)) else (none))
theorem lex_quoted.mono_l : ∀ k, (∀ y0 y1, LeO (lex_quoted.j0 k y0 y1) (lex_quoted.j0 (k + 1) y0 y1)) ∧ (∀ y0 y1 y2, LeO (lex_quoted.l0 k y0 y1 y2) (lex_quoted.l0 (k + 1) y0 y1 y2)) ∧ (∀ y0 y1 y2 y3, LeO (lex_quoted.j2 k y0 y1 y2 y3) (lex_quoted.j2 (k + 1) y0 y1 y2 y3))
  | 0 => ⟨fun _ _ r h => by simp [lex_quoted.j0] at h, fun _ _ _ r h => by simp [lex_quoted.l0] at h, fun _ _ _ _ r h => by simp [lex_quoted.j2] at h⟩
  | k + 1 => by
    obtain ⟨ih0, ih1, ih2⟩ := lex_quoted.mono_l k
    refine ⟨?_, ?_, ?_⟩
    · intro y0 y1
      unfold lex_quoted.j0
      repeat' first
      | (with_reducible exact ih0 _ _)
      | (with_reducible exact ih1 _ _ _)
      | (with_reducible exact ih2 _ _ _ _)
      | (with_reducible exact lex_piece.mono _ _)
      | (with_reducible exact LeO.refl _)
      | (with_reducible exact LeO.none _)
      | (with_reducible refine LeO.ite ?_ ?_)
      | (with_reducible refine LeO.bind ?_ (fun _ => ?_))
      | exact ih0 _ _
      | exact ih1 _ _ _
      | exact ih2 _ _ _ _
      | exact lex_piece.mono _ _
      | exact LeO.none _
      | refine LeO.ite ?_ ?_
      | refine LeO.bind ?_ (fun _ => ?_)
    · intro y0 y1 y2
      unfold lex_quoted.l0
      repeat' first
      | (with_reducible exact ih0 _ _)
      | (with_reducible exact ih1 _ _ _)
      | (with_reducible exact ih2 _ _ _ _)
      | (with_reducible exact lex_piece.mono _ _)
      | (with_reducible exact LeO.refl _)
      | (with_reducible exact LeO.none _)
      | (with_reducible refine LeO.ite ?_ ?_)
      | (with_reducible refine LeO.bind ?_ (fun _ => ?_))
      | exact ih0 _ _
      | exact ih1 _ _ _
      | exact ih2 _ _ _ _
      | exact lex_piece.mono _ _
      | exact LeO.none _
      | refine LeO.ite ?_ ?_
      | refine LeO.bind ?_ (fun _ => ?_)
    · intro y0 y1 y2 y3
      unfold lex_quoted.j2
      repeat' first
      | (with_reducible exact ih0 _ _)
      | (with_reducible exact ih1 _ _ _)
      | (with_reducible exact ih2 _ _ _ _)
      | (with_reducible exact lex_piece.mono _ _)
      | (with_reducible exact LeO.refl _)
      | (with_reducible exact LeO.none _)
      | (with_reducible refine LeO.ite ?_ ?_)
      | (with_reducible refine LeO.bind ?_ (fun _ => ?_))
      | exact ih0 _ _
      | exact ih1 _ _ _
      | exact ih2 _ _ _ _
      | exact lex_piece.mono _ _
      | exact LeO.none _
      | refine LeO.ite ?_ ?_
      | refine LeO.bind ?_ (fun _ => ?_)
theorem lex_quoted.mono : ∀ a0 k, LeO (lex_quoted.f k a0) (lex_quoted.f (k + 1) a0) := by
  intro a0 k
  obtain ⟨ih0, ih1, ih2⟩ := lex_quoted.mono_l k
  unfold lex_quoted.f
  repeat' first
      | (with_reducible exact ih0 _ _)
      | (with_reducible exact ih1 _ _ _)
      | (with_reducible exact ih2 _ _ _ _)
      | (with_reducible exact lex_piece.mono _ _)
      | (with_reducible exact LeO.refl _)
      | (with_reducible exact LeO.none _)
      | (with_reducible refine LeO.ite ?_ ?_)
      | (with_reducible refine LeO.bind ?_ (fun _ => ?_))
      | exact ih0 _ _
      | exact ih1 _ _ _
      | exact ih2 _ _ _ _
      | exact lex_piece.mono _ _
      | exact LeO.none _
      | refine LeO.ite ?_ ?_
      | refine LeO.bind ?_ (fun _ => ?_)

/-! ### lex_letter: function 52 -/
def lex_letter.f (a0 : Int) : Option (Bool) := if a0 = 95 then (some true) else (if a0 ≥ 97 then (if a0 ≤ 122 then (some true) else (if a0 ≥ 65 then (some (decide (a0 ≤ 90))) else (some false))) else (if a0 ≥ 65 then (some (decide (a0 ≤ 90))) else (some false)))

/-! ### lex_sign: function 55 -/
/-- the signs of two bytes -/
def twoSigns : List (List UInt8) := [[61, 61], [33, 61], [60, 61], [62, 61], [43, 43], [38, 38], [124, 124]]
def oneSigns : List UInt8 := [40, 41, 123, 125, 44, 59, 58, 46, 61, 60, 62, 43, 45, 42, 47, 37, 33, 35]
def lex_sign.f (a0 : ByteArray) : Option (Int) := if twoSigns.any (fun t => decide (a0.data.toList.take 2 = t)) = true then some 2 else if a0.size = 0 then none else if Lib.indexByte oneSigns ((bt a0 0).toNat.toUInt8) ≥ 0 then some 1 else some 0

/-! ### lex_token: function 35 -/
def lex_token.j0 : Nat → Int → Bool → Option (Int × Int × Int)
  | 0, _, _ => none
  | k + 1, x7, x53 => if x53 = true then (some (0, 0, 121)) else (some (2, x7, 0))
def lex_token.f (k : Nat) (a0 : ByteArray) : Option (Int × Int × Int) := if 0 < (a0.size : Int) then ((lex_letter.f (bt a0 0)).bind fun t116 => (if t116 = true then ((lex_run.f a0 0 53).bind fun t117 => (if t117 > 32 then (some (0, 0, 123)) else (if 0 ≤ t117 then (if t117 ≤ (a0.size : Int) then ((lex_Key.f (a0.extract 0 (t117 : Int).toNat)).bind fun t118 => (if t118 = true then (some (4, t117, 0)) else (some (1, t117, 0)))) else (none)) else (none)))) else ((lex_digit.f (bt a0 0)).bind fun t119 => (if t119 = true then ((lex_run.f a0 0 54).bind fun t120 => (if 0 ≤ t120 then (if t120 ≤ (a0.size : Int) then ((lex_whole.f (a0.extract 0 (t120 : Int).toNat)).bind fun bt121 => (if bt121.2 = true then (if t120 < (a0.size : Int) then ((lex_letter.f (bt a0 t120)).bind fun t123 => (lex_token.j0 k t120 t123)) else (lex_token.j0 k t120 false)) else (lex_token.j0 k t120 true))) else (none)) else (none))) else (if (bt a0 0) = 34 then ((lex_quoted.f k a0).bind fun bt124 => (if bt124.2 = 0 then (some (0, 0, 122)) else (some (3, bt124.2, 0)))) else ((lex_sign.f a0).bind fun t126 => (if t126 = 0 then (some (0, 0, 120)) else (some (5, t126, 0))))))))) else (none)
theorem lex_token.mono_l : ∀ k, (∀ y0 y1, LeO (lex_token.j0 k y0 y1) (lex_token.j0 (k + 1) y0 y1))
  | 0 => fun _ _ r h => by simp [lex_token.j0] at h
  | k + 1 => by
    have ih0 := lex_token.mono_l k
    · intro y0 y1
      unfold lex_token.j0
      repeat' first
      | (with_reducible exact ih0 _ _)
      | (with_reducible exact lex_quoted.mono _ _)
      | (with_reducible exact LeO.refl _)
      | (with_reducible exact LeO.none _)
      | (with_reducible refine LeO.ite ?_ ?_)
      | (with_reducible refine LeO.bind ?_ (fun _ => ?_))
      | exact ih0 _ _
      | exact lex_quoted.mono _ _
      | exact LeO.none _
      | refine LeO.ite ?_ ?_
      | refine LeO.bind ?_ (fun _ => ?_)
theorem lex_token.mono : ∀ a0 k, LeO (lex_token.f k a0) (lex_token.f (k + 1) a0) := by
  intro a0 k
  have ih0 := lex_token.mono_l k
  unfold lex_token.f
  repeat' first
      | (with_reducible exact ih0 _ _)
      | (with_reducible exact lex_quoted.mono _ _)
      | (with_reducible exact LeO.refl _)
      | (with_reducible exact LeO.none _)
      | (with_reducible refine LeO.ite ?_ ?_)
      | (with_reducible refine LeO.bind ?_ (fun _ => ?_))
      | exact ih0 _ _
      | exact lex_quoted.mono _ _
      | exact LeO.none _
      | refine LeO.ite ?_ ?_
      | refine LeO.bind ?_ (fun _ => ?_)

/-! ### lex_Next: function 14 -/
def lex_Next.f (k : Nat) (a0 : ByteArray) (a1 : Int) : Option (Int × Int × Int × Int) := if (a0.size : Int) > 65536 then (some (0, 0, 0, 3)) else (if a1 < 0 then (some (0, 0, 0, 1)) else (if a1 > (a0.size : Int) then (some (0, 0, 0, 1)) else ((lex_gap.f k a0 a1).bind fun t128 => (if t128 = (a0.size : Int) then (some (0, t128, t128, 0)) else (if 0 ≤ t128 then (if t128 ≤ (a0.size : Int) then ((lex_token.f k (a0.extract (t128 : Int).toNat a0.size)).bind fun bt129 => (if bt129.2.2 = 0 then (some (bt129.1, t128, wrap64 (t128 + bt129.2.1), 0)) else (some (0, t128, 0, bt129.2.2)))) else (none)) else (none))))))
theorem lex_Next.mono : ∀ a0 a1 k, LeO (lex_Next.f k a0 a1) (lex_Next.f (k + 1) a0 a1) := by
  intro a0 a1 k
  unfold lex_Next.f
  repeat' first
      | (with_reducible exact lex_gap.mono _ _ _)
      | (with_reducible exact lex_token.mono _ _)
      | (with_reducible exact LeO.refl _)
      | (with_reducible exact LeO.none _)
      | (with_reducible refine LeO.ite ?_ ?_)
      | (with_reducible refine LeO.bind ?_ (fun _ => ?_))
      | exact lex_gap.mono _ _ _
      | exact lex_token.mono _ _
      | exact LeO.none _
      | refine LeO.ite ?_ ?_
      | refine LeO.bind ?_ (fun _ => ?_)

/-! ### lex_All: function 17 -/
def lex_All.l0 : Nat → ByteArray → List (S24) → Int → Option ((List (S24)) × Int × Int)
  | 0, _, _, _ => none
  | k + 1, x0, x4, x5 => (lex_Next.f k x0 x5).bind fun bt133 => (if bt133.2.2.2 = 0 then (if x4.length < 5864062014805 then ((some (x4 ++ [(⟨bt133.1, bt133.2.1, bt133.2.2.1⟩ : S24)] : List (S24))).bind fun y138 => (if bt133.1 = 0 then (some (y138, 0, 0)) else (lex_All.l0 k x0 y138 bt133.2.2.1))) else (none)) else (some (([] : List (S24)), bt133.2.2.2, bt133.2.1)))
def lex_All.f (k : Nat) (a0 : ByteArray) : Option ((List (S24)) × Int × Int) := lex_All.l0 k a0 ([] : List (S24)) 0
theorem lex_All.mono_l : ∀ k, (∀ y0 y1 y2, LeO (lex_All.l0 k y0 y1 y2) (lex_All.l0 (k + 1) y0 y1 y2))
  | 0 => fun _ _ _ r h => by simp [lex_All.l0] at h
  | k + 1 => by
    have ih0 := lex_All.mono_l k
    · intro y0 y1 y2
      unfold lex_All.l0
      repeat' first
      | (with_reducible exact ih0 _ _ _)
      | (with_reducible exact lex_Next.mono _ _ _)
      | (with_reducible exact LeO.refl _)
      | (with_reducible exact LeO.none _)
      | (with_reducible refine LeO.ite ?_ ?_)
      | (with_reducible refine LeO.bind ?_ (fun _ => ?_))
      | exact ih0 _ _ _
      | exact lex_Next.mono _ _ _
      | exact LeO.none _
      | refine LeO.ite ?_ ?_
      | refine LeO.bind ?_ (fun _ => ?_)
theorem lex_All.mono : ∀ a0 k, LeO (lex_All.f k a0) (lex_All.f (k + 1) a0) := by
  intro a0 k
  have ih0 := lex_All.mono_l k
  unfold lex_All.f
  repeat' first
      | (with_reducible exact ih0 _ _ _)
      | (with_reducible exact lex_Next.mono _ _ _)
      | (with_reducible exact LeO.refl _)
      | (with_reducible exact LeO.none _)
      | (with_reducible refine LeO.ite ?_ ?_)
      | (with_reducible refine LeO.bind ?_ (fun _ => ?_))
      | exact ih0 _ _ _
      | exact lex_Next.mono _ _ _
      | exact LeO.none _
      | refine LeO.ite ?_ ?_
      | refine LeO.bind ?_ (fun _ => ?_)

/-! ### lex_just: function 38 -/
def lex_just.f (k : Nat) (a0 : ByteArray) (a1 : Int) : Option (Bool) := if a0.toList = ([] : List UInt8) then (some false) else ((lex_token.f k a0).bind fun bt141 => (if bt141.2.2 = 0 then (if bt141.1 = a1 then (some (bt141.2.1 == (a0.size : Int))) else (some false)) else (some false)))
theorem lex_just.mono : ∀ a0 a1 k, LeO (lex_just.f k a0 a1) (lex_just.f (k + 1) a0 a1) := by
  intro a0 a1 k
  unfold lex_just.f
  repeat' first
      | (with_reducible exact lex_token.mono _ _)
      | (with_reducible exact LeO.refl _)
      | (with_reducible exact LeO.none _)
      | (with_reducible refine LeO.ite ?_ ?_)
      | (with_reducible refine LeO.bind ?_ (fun _ => ?_))
      | exact lex_token.mono _ _
      | exact LeO.none _
      | refine LeO.ite ?_ ?_
      | refine LeO.bind ?_ (fun _ => ?_)

/-! ### lex_Word: function 26 -/
def lex_Word.f (k : Nat) (a0 : ByteArray) : Option (Bool) := (lex_just.f k a0 1).bind fun t144 => (some t144)
theorem lex_Word.mono : ∀ a0 k, LeO (lex_Word.f k a0) (lex_Word.f (k + 1) a0) := by
  intro a0 k
  unfold lex_Word.f
  repeat' first
      | (with_reducible exact lex_just.mono _ _ _)
      | (with_reducible exact LeO.refl _)
      | (with_reducible exact LeO.none _)
      | (with_reducible refine LeO.ite ?_ ?_)
      | (with_reducible refine LeO.bind ?_ (fun _ => ?_))
      | exact lex_just.mono _ _ _
      | exact LeO.none _
      | refine LeO.ite ?_ ?_
      | refine LeO.bind ?_ (fun _ => ?_)

/-! ### treadlelaw12_awake: function 16 -/
def treadlelaw12_awake.f (k : Nat)  : Option (Bool) := (lex_All.f k (⟨#[97, 60, 61, 98, 32, 47, 47, 32, 120]⟩ : ByteArray)).bind fun bt145 => (if (bt145.2.1 == 0 && (bt145.2.2 == 0)) = true then (if (bt145.1.length : Int) = 4 then (if 1 < (bt145.1.length : Int) then (if (((rd_T24 bt145.1 1).f0) == 5 && (((rd_T24 bt145.1 1).f1) == 1 && (((rd_T24 bt145.1 1).f2) == 3))) = true then ((lex_Key.f (⟨#[105, 102]⟩ : ByteArray)).bind fun t152 => (if t152 = true then ((lex_Word.f k (⟨#[120, 49]⟩ : ByteArray)).bind fun t153 => (some t153)) else (some false))) else (some false)) else (none)) else (some false)) else (some false))
theorem treadlelaw12_awake.mono : ∀ k, LeO (treadlelaw12_awake.f k ) (treadlelaw12_awake.f (k + 1) ) := by
  intro  k
  unfold treadlelaw12_awake.f
  repeat' first
      | (with_reducible exact lex_All.mono _ _)
      | (with_reducible exact lex_Word.mono _ _)
      | (with_reducible exact LeO.refl _)
      | (with_reducible exact LeO.none _)
      | (with_reducible refine LeO.ite ?_ ?_)
      | (with_reducible refine LeO.bind ?_ (fun _ => ?_))
      | exact lex_All.mono _ _
      | exact lex_Word.mono _ _
      | exact LeO.none _
      | refine LeO.ite ?_ ?_
      | refine LeO.bind ?_ (fun _ => ?_)

/-! ### treadlelaw12_LexMunch: function 5 -/
mutual
def treadlelaw12_LexMunch.l0 : Nat → ByteArray → List (S24) → Int → Option (Bool)
  | 0, _, _, _ => none
  | k + 1, x0, x3, x5 => if x5 < (x3.length : Int) then (if 0 ≤ x5 then (if ((rd_T24 x3 x5).f0) = 0 then (treadlelaw12_LexMunch.l0 k x0 x3 (wrap64 (x5 + 1))) else (if (wrap64 (((rd_T24 x3 x5).f2) - ((rd_T24 x3 x5).f1))) < 1 then (some false) else (if 0 ≤ ((rd_T24 x3 x5).f1) then (if ((rd_T24 x3 x5).f1) ≤ ((rd_T24 x3 x5).f2) then (if ((rd_T24 x3 x5).f2) ≤ (x0.size : Int) then ((lex_Next.f k (x0.extract (((rd_T24 x3 x5).f1) : Int).toNat (((rd_T24 x3 x5).f2) : Int).toNat) 0).bind fun bt164 => (if bt164.2.2.2 = 0 then (treadlelaw12_LexMunch.j1 k x0 x3 x5 (!(bt164.1 == ((rd_T24 x3 x5).f0)) || (!(bt164.2.1 == 0) || (!(bt164.2.2.1 == (wrap64 (((rd_T24 x3 x5).f2) - ((rd_T24 x3 x5).f1))))))) ((rd_T24 x3 x5).f0) ((rd_T24 x3 x5).f1) ((rd_T24 x3 x5).f2) bt164.1 bt164.2.1 bt164.2.2.1) else (treadlelaw12_LexMunch.j1 k x0 x3 x5 true ((rd_T24 x3 x5).f0) ((rd_T24 x3 x5).f1) ((rd_T24 x3 x5).f2) bt164.1 bt164.2.1 bt164.2.2.1))) else (none)) else (none)) else (none)))) else (none)) else ((treadlelaw12_awake.f k).bind fun t161 => (some t161))
def treadlelaw12_LexMunch.j1 : Nat → ByteArray → List (S24) → Int → Bool → Int → Int → Int → Int → Int → Int → Option (Bool)
  | 0, _, _, _, _, _, _, _, _, _, _ => none
  | k + 1, x0, x3, x5, x64, x164000, x164001, x164002, x169000, x169001, x169002 => if x64 = true then (some false) else (if x164002 = (x0.size : Int) then (treadlelaw12_LexMunch.l0 k x0 x3 (wrap64 (x5 + 1))) else (if 0 ≤ x164001 then (if x164001 ≤ (wrap64 (x164002 + 1)) then (if (wrap64 (x164002 + 1)) ≤ (x0.size : Int) then ((lex_Next.f k (x0.extract (x164001 : Int).toNat ((wrap64 (x164002 + 1)) : Int).toNat) 0).bind fun bt169 => (if bt169.2.2.2 = 0 then (if (!(bt169.1 == x169000) || (!(bt169.2.1 == x169001) || (!(bt169.2.2.1 == x169002)))) = true then (some false) else (treadlelaw12_LexMunch.l0 k x0 x3 (wrap64 (x5 + 1)))) else (some false))) else (none)) else (none)) else (none)))
end
def treadlelaw12_LexMunch.f (k : Nat) (a0 : ByteArray) : Option (Bool) := (lex_All.f k a0).bind fun bt154 => (if (!(bt154.2.1 == 0) || (!(bt154.2.2 == 0))) = true then (if (bt154.1.length : Int) = 0 then ((treadlelaw12_awake.f k).bind fun t160 => (some t160)) else (some false)) else (treadlelaw12_LexMunch.l0 k a0 bt154.1 0))
theorem treadlelaw12_LexMunch.mono_l : ∀ k, (∀ y0 y1 y2, LeO (treadlelaw12_LexMunch.l0 k y0 y1 y2) (treadlelaw12_LexMunch.l0 (k + 1) y0 y1 y2)) ∧ (∀ y0 y1 y2 y3 y4 y5 y6 y7 y8 y9, LeO (treadlelaw12_LexMunch.j1 k y0 y1 y2 y3 y4 y5 y6 y7 y8 y9) (treadlelaw12_LexMunch.j1 (k + 1) y0 y1 y2 y3 y4 y5 y6 y7 y8 y9))
  | 0 => ⟨fun _ _ _ r h => by simp [treadlelaw12_LexMunch.l0] at h, fun _ _ _ _ _ _ _ _ _ _ r h => by simp [treadlelaw12_LexMunch.j1] at h⟩
  | k + 1 => by
    obtain ⟨ih0, ih1⟩ := treadlelaw12_LexMunch.mono_l k
    refine ⟨?_, ?_⟩
    · intro y0 y1 y2
      unfold treadlelaw12_LexMunch.l0
      repeat' first
      | (with_reducible exact ih0 _ _ _)
      | (with_reducible exact ih1 _ _ _ _ _ _ _ _ _ _)
      | (with_reducible exact lex_All.mono _ _)
      | (with_reducible exact lex_Next.mono _ _ _)
      | (with_reducible exact treadlelaw12_awake.mono _)
      | (with_reducible exact LeO.refl _)
      | (with_reducible exact LeO.none _)
      | (with_reducible refine LeO.ite ?_ ?_)
      | (with_reducible refine LeO.bind ?_ (fun _ => ?_))
      | exact ih0 _ _ _
      | exact ih1 _ _ _ _ _ _ _ _ _ _
      | exact lex_All.mono _ _
      | exact lex_Next.mono _ _ _
      | exact treadlelaw12_awake.mono _
      | exact LeO.none _
      | refine LeO.ite ?_ ?_
      | refine LeO.bind ?_ (fun _ => ?_)
    · intro y0 y1 y2 y3 y4 y5 y6 y7 y8 y9
      unfold treadlelaw12_LexMunch.j1
      repeat' first
      | (with_reducible exact ih0 _ _ _)
      | (with_reducible exact ih1 _ _ _ _ _ _ _ _ _ _)
      | (with_reducible exact lex_All.mono _ _)
      | (with_reducible exact lex_Next.mono _ _ _)
      | (with_reducible exact treadlelaw12_awake.mono _)
      | (with_reducible exact LeO.refl _)
      | (with_reducible exact LeO.none _)
      | (with_reducible refine LeO.ite ?_ ?_)
      | (with_reducible refine LeO.bind ?_ (fun _ => ?_))
      | exact ih0 _ _ _
      | exact ih1 _ _ _ _ _ _ _ _ _ _
      | exact lex_All.mono _ _
      | exact lex_Next.mono _ _ _
      | exact treadlelaw12_awake.mono _
      | exact LeO.none _
      | refine LeO.ite ?_ ?_
      | refine LeO.bind ?_ (fun _ => ?_)
theorem treadlelaw12_LexMunch.mono : ∀ a0 k, LeO (treadlelaw12_LexMunch.f k a0) (treadlelaw12_LexMunch.f (k + 1) a0) := by
  intro a0 k
  obtain ⟨ih0, ih1⟩ := treadlelaw12_LexMunch.mono_l k
  unfold treadlelaw12_LexMunch.f
  repeat' first
      | (with_reducible exact ih0 _ _ _)
      | (with_reducible exact ih1 _ _ _ _ _ _ _ _ _ _)
      | (with_reducible exact lex_All.mono _ _)
      | (with_reducible exact lex_Next.mono _ _ _)
      | (with_reducible exact treadlelaw12_awake.mono _)
      | (with_reducible exact LeO.refl _)
      | (with_reducible exact LeO.none _)
      | (with_reducible refine LeO.ite ?_ ?_)
      | (with_reducible refine LeO.bind ?_ (fun _ => ?_))
      | exact ih0 _ _ _
      | exact ih1 _ _ _ _ _ _ _ _ _ _
      | exact lex_All.mono _ _
      | exact lex_Next.mono _ _ _
      | exact treadlelaw12_awake.mono _
      | exact LeO.none _
      | refine LeO.ite ?_ ?_
      | refine LeO.bind ?_ (fun _ => ?_)

/-! ### treadleref12_Gap: function 21 -/
mutual
def treadleref12_Gap.l0 : Nat → ByteArray → Int → Option (Int)
  | 0, _, _ => none
  | k + 1, x0, x1 => if x1 < (x0.size : Int) then (if 0 ≤ x1 then (if (bt x0 x1) = 32 then (treadleref12_Gap.j1 k x0 x1 (bt x0 x1) true) else (if (bt x0 x1) = 9 then (treadleref12_Gap.j1 k x0 x1 (bt x0 x1) true) else (if (bt x0 x1) = 10 then (treadleref12_Gap.j1 k x0 x1 (bt x0 x1) true) else (treadleref12_Gap.j1 k x0 x1 (bt x0 x1) ((bt x0 x1) == 13))))) else (none)) else (some x1)
def treadleref12_Gap.j1 : Nat → ByteArray → Int → Int → Bool → Option (Int)
  | 0, _, _, _, _ => none
  | k + 1, x0, x1, x5, x14 => if x14 = true then (treadleref12_Gap.l0 k x0 (wrap64 (x1 + 1))) else (if x5 = 47 then (if (wrap64 (x1 + 1)) < (x0.size : Int) then (if 0 ≤ (wrap64 (x1 + 1)) then (treadleref12_Gap.j2 k x0 x1 ((bt x0 (wrap64 (x1 + 1))) == 47)) else (none)) else (treadleref12_Gap.j2 k x0 x1 false)) else (treadleref12_Gap.j2 k x0 x1 false))
def treadleref12_Gap.j2 : Nat → ByteArray → Int → Bool → Option (Int)
  | 0, _, _, _ => none
  | k + 1, x0, x1, x31 => if x31 = true then (treadleref12_Gap.l1 k x0 x1) else (some x1)
def treadleref12_Gap.l1 : Nat → ByteArray → Int → Option (Int)
  | 0, _, _ => none
  | k + 1, x0, x1 => if x1 < (x0.size : Int) then (if 0 ≤ x1 then (if (bt x0 x1) = 10 then (treadleref12_Gap.l0 k x0 x1) else (treadleref12_Gap.l1 k x0 (wrap64 (x1 + 1)))) else (none)) else (treadleref12_Gap.l0 k x0 x1)
end
def treadleref12_Gap.f (k : Nat) (a0 : ByteArray) (a1 : Int) : Option (Int) := treadleref12_Gap.l0 k a0 a1
theorem treadleref12_Gap.mono_l : ∀ k, (∀ y0 y1, LeO (treadleref12_Gap.l0 k y0 y1) (treadleref12_Gap.l0 (k + 1) y0 y1)) ∧ (∀ y0 y1 y2 y3, LeO (treadleref12_Gap.j1 k y0 y1 y2 y3) (treadleref12_Gap.j1 (k + 1) y0 y1 y2 y3)) ∧ (∀ y0 y1 y2, LeO (treadleref12_Gap.j2 k y0 y1 y2) (treadleref12_Gap.j2 (k + 1) y0 y1 y2)) ∧ (∀ y0 y1, LeO (treadleref12_Gap.l1 k y0 y1) (treadleref12_Gap.l1 (k + 1) y0 y1))
  | 0 => ⟨fun _ _ r h => by simp [treadleref12_Gap.l0] at h, fun _ _ _ _ r h => by simp [treadleref12_Gap.j1] at h, fun _ _ _ r h => by simp [treadleref12_Gap.j2] at h, fun _ _ r h => by simp [treadleref12_Gap.l1] at h⟩
  | k + 1 => by
    obtain ⟨ih0, ih1, ih2, ih3⟩ := treadleref12_Gap.mono_l k
    refine ⟨?_, ?_, ?_, ?_⟩
    · intro y0 y1
      unfold treadleref12_Gap.l0
      repeat' first
      | (with_reducible exact ih0 _ _)
      | (with_reducible exact ih1 _ _ _ _)
      | (with_reducible exact ih2 _ _ _)
      | (with_reducible exact ih3 _ _)
      | (with_reducible exact LeO.refl _)
      | (with_reducible exact LeO.none _)
      | (with_reducible refine LeO.ite ?_ ?_)
      | (with_reducible refine LeO.bind ?_ (fun _ => ?_))
      | exact ih0 _ _
      | exact ih1 _ _ _ _
      | exact ih2 _ _ _
      | exact ih3 _ _
      | exact LeO.none _
      | refine LeO.ite ?_ ?_
      | refine LeO.bind ?_ (fun _ => ?_)
    · intro y0 y1 y2 y3
      unfold treadleref12_Gap.j1
      repeat' first
      | (with_reducible exact ih0 _ _)
      | (with_reducible exact ih1 _ _ _ _)
      | (with_reducible exact ih2 _ _ _)
      | (with_reducible exact ih3 _ _)
      | (with_reducible exact LeO.refl _)
      | (with_reducible exact LeO.none _)
      | (with_reducible refine LeO.ite ?_ ?_)
      | (with_reducible refine LeO.bind ?_ (fun _ => ?_))
      | exact ih0 _ _
      | exact ih1 _ _ _ _
      | exact ih2 _ _ _
      | exact ih3 _ _
      | exact LeO.none _
      | refine LeO.ite ?_ ?_
      | refine LeO.bind ?_ (fun _ => ?_)
    · intro y0 y1 y2
      unfold treadleref12_Gap.j2
      repeat' first
      | (with_reducible exact ih0 _ _)
      | (with_reducible exact ih1 _ _ _ _)
      | (with_reducible exact ih2 _ _ _)
      | (with_reducible exact ih3 _ _)
      | (with_reducible exact LeO.refl _)
      | (with_reducible exact LeO.none _)
      | (with_reducible refine LeO.ite ?_ ?_)
      | (with_reducible refine LeO.bind ?_ (fun _ => ?_))
      | exact ih0 _ _
      | exact ih1 _ _ _ _
      | exact ih2 _ _ _
      | exact ih3 _ _
      | exact LeO.none _
      | refine LeO.ite ?_ ?_
      | refine LeO.bind ?_ (fun _ => ?_)
    · intro y0 y1
      unfold treadleref12_Gap.l1
      repeat' first
      | (with_reducible exact ih0 _ _)
      | (with_reducible exact ih1 _ _ _ _)
      | (with_reducible exact ih2 _ _ _)
      | (with_reducible exact ih3 _ _)
      | (with_reducible exact LeO.refl _)
      | (with_reducible exact LeO.none _)
      | (with_reducible refine LeO.ite ?_ ?_)
      | (with_reducible refine LeO.bind ?_ (fun _ => ?_))
      | exact ih0 _ _
      | exact ih1 _ _ _ _
      | exact ih2 _ _ _
      | exact ih3 _ _
      | exact LeO.none _
      | refine LeO.ite ?_ ?_
      | refine LeO.bind ?_ (fun _ => ?_)
theorem treadleref12_Gap.mono : ∀ a0 a1 k, LeO (treadleref12_Gap.f k a0 a1) (treadleref12_Gap.f (k + 1) a0 a1) := by
  intro a0 a1 k
  obtain ⟨ih0, ih1, ih2, ih3⟩ := treadleref12_Gap.mono_l k
  unfold treadleref12_Gap.f
  repeat' first
      | (with_reducible exact ih0 _ _)
      | (with_reducible exact ih1 _ _ _ _)
      | (with_reducible exact ih2 _ _ _)
      | (with_reducible exact ih3 _ _)
      | (with_reducible exact LeO.refl _)
      | (with_reducible exact LeO.none _)
      | (with_reducible refine LeO.ite ?_ ?_)
      | (with_reducible refine LeO.bind ?_ (fun _ => ?_))
      | exact ih0 _ _
      | exact ih1 _ _ _ _
      | exact ih2 _ _ _
      | exact ih3 _ _
      | exact LeO.none _
      | refine LeO.ite ?_ ?_
      | refine LeO.bind ?_ (fun _ => ?_)

/-! ### treadlelaw12_LexLost: function 7 -/
def treadlelaw12_LexLost.l0 : Nat → ByteArray → List (S24) → Int → Int → Option (Bool)
  | 0, _, _, _, _ => none
  | k + 1, x0, x3, x5, x6 => if x6 < (x3.length : Int) then (if 0 ≤ x6 then ((treadleref12_Gap.f k x0 x5).bind fun t182 => (if ((rd_T24 x3 x6).f1) = t182 then (if ((rd_T24 x3 x6).f2) < ((rd_T24 x3 x6).f1) then (some false) else (if ((rd_T24 x3 x6).f2) > (x0.size : Int) then (some false) else (if ((((rd_T24 x3 x6).f0) == 0) != (x6 == (wrap64 ((x3.length : Int) - 1)))) = true then (some false) else (treadlelaw12_LexLost.l0 k x0 x3 ((rd_T24 x3 x6).f2) (wrap64 (x6 + 1)))))) else (some false))) else (none)) else (if x5 = (x0.size : Int) then (if (x3.length : Int) > 0 then ((treadlelaw12_awake.f k).bind fun t188 => (some t188)) else (some false)) else (some false))
def treadlelaw12_LexLost.f (k : Nat) (a0 : ByteArray) : Option (Bool) := (lex_All.f k a0).bind fun bt174 => (if (!(bt174.2.1 == 0) || (!(bt174.2.2 == 0))) = true then ((treadlelaw12_awake.f k).bind fun t180 => (some t180)) else (treadlelaw12_LexLost.l0 k a0 bt174.1 0 0))
theorem treadlelaw12_LexLost.mono_l : ∀ k, (∀ y0 y1 y2 y3, LeO (treadlelaw12_LexLost.l0 k y0 y1 y2 y3) (treadlelaw12_LexLost.l0 (k + 1) y0 y1 y2 y3))
  | 0 => fun _ _ _ _ r h => by simp [treadlelaw12_LexLost.l0] at h
  | k + 1 => by
    have ih0 := treadlelaw12_LexLost.mono_l k
    · intro y0 y1 y2 y3
      unfold treadlelaw12_LexLost.l0
      repeat' first
      | (with_reducible exact ih0 _ _ _ _)
      | (with_reducible exact lex_All.mono _ _)
      | (with_reducible exact treadlelaw12_awake.mono _)
      | (with_reducible exact treadleref12_Gap.mono _ _ _)
      | (with_reducible exact LeO.refl _)
      | (with_reducible exact LeO.none _)
      | (with_reducible refine LeO.ite ?_ ?_)
      | (with_reducible refine LeO.bind ?_ (fun _ => ?_))
      | exact ih0 _ _ _ _
      | exact lex_All.mono _ _
      | exact treadlelaw12_awake.mono _
      | exact treadleref12_Gap.mono _ _ _
      | exact LeO.none _
      | refine LeO.ite ?_ ?_
      | refine LeO.bind ?_ (fun _ => ?_)
theorem treadlelaw12_LexLost.mono : ∀ a0 k, LeO (treadlelaw12_LexLost.f k a0) (treadlelaw12_LexLost.f (k + 1) a0) := by
  intro a0 k
  have ih0 := treadlelaw12_LexLost.mono_l k
  unfold treadlelaw12_LexLost.f
  repeat' first
      | (with_reducible exact ih0 _ _ _ _)
      | (with_reducible exact lex_All.mono _ _)
      | (with_reducible exact treadlelaw12_awake.mono _)
      | (with_reducible exact treadleref12_Gap.mono _ _ _)
      | (with_reducible exact LeO.refl _)
      | (with_reducible exact LeO.none _)
      | (with_reducible refine LeO.ite ?_ ?_)
      | (with_reducible refine LeO.bind ?_ (fun _ => ?_))
      | exact ih0 _ _ _ _
      | exact lex_All.mono _ _
      | exact treadlelaw12_awake.mono _
      | exact treadleref12_Gap.mono _ _ _
      | exact LeO.none _
      | refine LeO.ite ?_ ?_
      | refine LeO.bind ?_ (fun _ => ?_)

/-! ### treadlelaw12_LexFirst: function 8 -/
mutual
def treadlelaw12_LexFirst.j0 : Nat → ByteArray → Bool → Int → Int → Option (Bool)
  | 0, _, _, _, _ => none
  | k + 1, x0, x44, x195000, x195001 => if x44 = true then (some false) else (if 0 ≤ x195001 then (if x195001 ≤ (x0.size : Int) then ((lex_All.f k (x0.extract 0 (x195001 : Int).toNat)).bind fun bt196 => ((lex_Next.f k x0 x195001).bind fun bt202 => (if (bt196.2.1 == 0 && (bt196.2.2 == 0)) = true then (if (bt196.1.length : Int) > 0 then (if bt202.2.2.2 = x195000 then (if (bt202.1 == 0 && (bt202.2.1 == x195001 && (bt202.2.2.1 == 0))) = true then ((treadlelaw12_awake.f k).bind fun t207 => (some t207)) else (some false)) else (some false)) else (some false)) else (some false)))) else (none)) else (none))
def treadlelaw12_LexFirst.l0 : Nat → ByteArray → List (S24) → Int → Int → Option (Bool)
  | 0, _, _, _, _ => none
  | k + 1, x0, x3, x9, x10 => if x10 < (x3.length : Int) then ((lex_Next.f k x0 x9).bind fun bt208 => (if bt208.2.2.2 = 0 then (if 0 ≤ x10 then (if (!(bt208.1 == ((rd_T24 x3 x10).f0)) || (!(bt208.2.1 == ((rd_T24 x3 x10).f1)) || (!(bt208.2.2.1 == ((rd_T24 x3 x10).f2))))) = true then (some false) else (treadlelaw12_LexFirst.l0 k x0 x3 bt208.2.2.1 (wrap64 (x10 + 1)))) else (none)) else (some false))) else ((treadlelaw12_awake.f k).bind fun t214 => (some t214))
end
def treadlelaw12_LexFirst.f (k : Nat) (a0 : ByteArray) : Option (Bool) := (lex_All.f k a0).bind fun bt189 => (if bt189.2.1 = 3 then (if (a0.size : Int) > 65536 then (if bt189.2.2 = 0 then ((treadlelaw12_awake.f k).bind fun t195 => (some t195)) else (some false)) else (some false)) else (if (!(bt189.2.1 == 0) || (!(bt189.2.2 == 0))) = true then (if bt189.2.2 < 0 then (treadlelaw12_LexFirst.j0 k a0 true bt189.2.1 bt189.2.2) else (treadlelaw12_LexFirst.j0 k a0 (decide (bt189.2.2 ≥ (a0.size : Int))) bt189.2.1 bt189.2.2)) else (treadlelaw12_LexFirst.l0 k a0 bt189.1 0 0)))
theorem treadlelaw12_LexFirst.mono_l : ∀ k, (∀ y0 y1 y2 y3, LeO (treadlelaw12_LexFirst.j0 k y0 y1 y2 y3) (treadlelaw12_LexFirst.j0 (k + 1) y0 y1 y2 y3)) ∧ (∀ y0 y1 y2 y3, LeO (treadlelaw12_LexFirst.l0 k y0 y1 y2 y3) (treadlelaw12_LexFirst.l0 (k + 1) y0 y1 y2 y3))
  | 0 => ⟨fun _ _ _ _ r h => by simp [treadlelaw12_LexFirst.j0] at h, fun _ _ _ _ r h => by simp [treadlelaw12_LexFirst.l0] at h⟩
  | k + 1 => by
    obtain ⟨ih0, ih1⟩ := treadlelaw12_LexFirst.mono_l k
    refine ⟨?_, ?_⟩
    · intro y0 y1 y2 y3
      unfold treadlelaw12_LexFirst.j0
      repeat' first
      | (with_reducible exact ih0 _ _ _ _)
      | (with_reducible exact ih1 _ _ _ _)
      | (with_reducible exact lex_All.mono _ _)
      | (with_reducible exact lex_Next.mono _ _ _)
      | (with_reducible exact treadlelaw12_awake.mono _)
      | (with_reducible exact LeO.refl _)
      | (with_reducible exact LeO.none _)
      | (with_reducible refine LeO.ite ?_ ?_)
      | (with_reducible refine LeO.bind ?_ (fun _ => ?_))
      | exact ih0 _ _ _ _
      | exact ih1 _ _ _ _
      | exact lex_All.mono _ _
      | exact lex_Next.mono _ _ _
      | exact treadlelaw12_awake.mono _
      | exact LeO.none _
      | refine LeO.ite ?_ ?_
      | refine LeO.bind ?_ (fun _ => ?_)
    · intro y0 y1 y2 y3
      unfold treadlelaw12_LexFirst.l0
      repeat' first
      | (with_reducible exact ih0 _ _ _ _)
      | (with_reducible exact ih1 _ _ _ _)
      | (with_reducible exact lex_All.mono _ _)
      | (with_reducible exact lex_Next.mono _ _ _)
      | (with_reducible exact treadlelaw12_awake.mono _)
      | (with_reducible exact LeO.refl _)
      | (with_reducible exact LeO.none _)
      | (with_reducible refine LeO.ite ?_ ?_)
      | (with_reducible refine LeO.bind ?_ (fun _ => ?_))
      | exact ih0 _ _ _ _
      | exact ih1 _ _ _ _
      | exact lex_All.mono _ _
      | exact lex_Next.mono _ _ _
      | exact treadlelaw12_awake.mono _
      | exact LeO.none _
      | refine LeO.ite ?_ ?_
      | refine LeO.bind ?_ (fun _ => ?_)
theorem treadlelaw12_LexFirst.mono : ∀ a0 k, LeO (treadlelaw12_LexFirst.f k a0) (treadlelaw12_LexFirst.f (k + 1) a0) := by
  intro a0 k
  obtain ⟨ih0, ih1⟩ := treadlelaw12_LexFirst.mono_l k
  unfold treadlelaw12_LexFirst.f
  repeat' first
      | (with_reducible exact ih0 _ _ _ _)
      | (with_reducible exact ih1 _ _ _ _)
      | (with_reducible exact lex_All.mono _ _)
      | (with_reducible exact lex_Next.mono _ _ _)
      | (with_reducible exact treadlelaw12_awake.mono _)
      | (with_reducible exact LeO.refl _)
      | (with_reducible exact LeO.none _)
      | (with_reducible refine LeO.ite ?_ ?_)
      | (with_reducible refine LeO.bind ?_ (fun _ => ?_))
      | exact ih0 _ _ _ _
      | exact ih1 _ _ _ _
      | exact lex_All.mono _ _
      | exact lex_Next.mono _ _ _
      | exact treadlelaw12_awake.mono _
      | exact LeO.none _
      | refine LeO.ite ?_ ?_
      | refine LeO.bind ?_ (fun _ => ?_)

/-! ### treadleref12_Digit: function 40 -/
def treadleref12_Digit.f (a0 : Int) : Option (Bool) := if a0 ≥ 48 then (some (decide (a0 ≤ 57))) else (some false)

/-! ### treadleref12_Number: function 23 -/
mutual
def treadleref12_Number.j0 : Nat → ByteArray → Bool → Option (Int × Int)
  | 0, _, _ => none
  | k + 1, x0, x19 => if x19 = true then (some (0, 121)) else (treadleref12_Number.l0 k x0 0 0)
def treadleref12_Number.l0 : Nat → ByteArray → Int → Int → Option (Int × Int)
  | 0, _, _, _ => none
  | k + 1, x0, x4, x5 => if x5 < (x0.size : Int) then (if 0 ≤ x5 then ((treadleref12_Digit.f (bt x0 x5)).bind fun t215 => (if t215 = true then (if x4 > ((9223372036854775807 - (((bt x0 x5) - 48) % 256)) / 10) then (some (0, 121)) else (treadleref12_Number.l0 k x0 (IntKind.u64.wrap ((IntKind.u64.wrap (10 * x4)) + (((bt x0 x5) - 48) % 256))) (wrap64 (x5 + 1)))) else (some (0, 121)))) else (none)) else (some (wrap64 (x4), 0))
end
def treadleref12_Number.f (k : Nat) (a0 : ByteArray) : Option (Int × Int) := if (a0.size : Int) = 0 then (treadleref12_Number.j0 k a0 true) else (if (a0.size : Int) > 1 then (if 0 < (a0.size : Int) then (treadleref12_Number.j0 k a0 ((bt a0 0) == 48)) else (none)) else (treadleref12_Number.j0 k a0 false))
theorem treadleref12_Number.mono_l : ∀ k, (∀ y0 y1, LeO (treadleref12_Number.j0 k y0 y1) (treadleref12_Number.j0 (k + 1) y0 y1)) ∧ (∀ y0 y1 y2, LeO (treadleref12_Number.l0 k y0 y1 y2) (treadleref12_Number.l0 (k + 1) y0 y1 y2))
  | 0 => ⟨fun _ _ r h => by simp [treadleref12_Number.j0] at h, fun _ _ _ r h => by simp [treadleref12_Number.l0] at h⟩
  | k + 1 => by
    obtain ⟨ih0, ih1⟩ := treadleref12_Number.mono_l k
    refine ⟨?_, ?_⟩
    · intro y0 y1
      unfold treadleref12_Number.j0
      repeat' first
      | (with_reducible exact ih0 _ _)
      | (with_reducible exact ih1 _ _ _)
      | (with_reducible exact LeO.refl _)
      | (with_reducible exact LeO.none _)
      | (with_reducible refine LeO.ite ?_ ?_)
      | (with_reducible refine LeO.bind ?_ (fun _ => ?_))
      | exact ih0 _ _
      | exact ih1 _ _ _
      | exact LeO.none _
      | refine LeO.ite ?_ ?_
      | refine LeO.bind ?_ (fun _ => ?_)
    · intro y0 y1 y2
      unfold treadleref12_Number.l0
      repeat' first
      | (with_reducible exact ih0 _ _)
      | (with_reducible exact ih1 _ _ _)
      | (with_reducible exact LeO.refl _)
      | (with_reducible exact LeO.none _)
      | (with_reducible refine LeO.ite ?_ ?_)
      | (with_reducible refine LeO.bind ?_ (fun _ => ?_))
      | exact ih0 _ _
      | exact ih1 _ _ _
      | exact LeO.none _
      | refine LeO.ite ?_ ?_
      | refine LeO.bind ?_ (fun _ => ?_)
theorem treadleref12_Number.mono : ∀ a0 k, LeO (treadleref12_Number.f k a0) (treadleref12_Number.f (k + 1) a0) := by
  intro a0 k
  obtain ⟨ih0, ih1⟩ := treadleref12_Number.mono_l k
  unfold treadleref12_Number.f
  repeat' first
      | (with_reducible exact ih0 _ _)
      | (with_reducible exact ih1 _ _ _)
      | (with_reducible exact LeO.refl _)
      | (with_reducible exact LeO.none _)
      | (with_reducible refine LeO.ite ?_ ?_)
      | (with_reducible refine LeO.bind ?_ (fun _ => ?_))
      | exact ih0 _ _
      | exact ih1 _ _ _
      | exact LeO.none _
      | refine LeO.ite ?_ ?_
      | refine LeO.bind ?_ (fun _ => ?_)

/-! ### treadleref12_among: function 44 -/
def treadleref12_among.l0 : Nat → List ByteArray → ByteArray → Int → Option (Bool)
  | 0, _, _, _ => none
  | k + 1, x0, x1, x5 => if x5 < (x0.length : Int) then (if 0 ≤ x5 then (if (rdOf ByteArray.empty x0 x5).toList = x1.toList then (some true) else (treadleref12_among.l0 k x0 x1 (wrap64 (x5 + 1)))) else (none)) else (some false)
def treadleref12_among.f (k : Nat) (l0 : List ByteArray) (a1 : ByteArray) : Option (Bool) := treadleref12_among.l0 k l0 a1 0
theorem treadleref12_among.mono_l : ∀ k, (∀ y0 y1 y2, LeO (treadleref12_among.l0 k y0 y1 y2) (treadleref12_among.l0 (k + 1) y0 y1 y2))
  | 0 => fun _ _ _ r h => by simp [treadleref12_among.l0] at h
  | k + 1 => by
    have ih0 := treadleref12_among.mono_l k
    · intro y0 y1 y2
      unfold treadleref12_among.l0
      repeat' first
      | (with_reducible exact ih0 _ _ _)
      | (with_reducible exact LeO.refl _)
      | (with_reducible exact LeO.none _)
      | (with_reducible refine LeO.ite ?_ ?_)
      | (with_reducible refine LeO.bind ?_ (fun _ => ?_))
      | exact ih0 _ _ _
      | exact LeO.none _
      | refine LeO.ite ?_ ?_
      | refine LeO.bind ?_ (fun _ => ?_)
theorem treadleref12_among.mono : ∀ a0 a1 k, LeO (treadleref12_among.f k a0 a1) (treadleref12_among.f (k + 1) a0 a1) := by
  intro a0 a1 k
  have ih0 := treadleref12_among.mono_l k
  unfold treadleref12_among.f
  repeat' first
      | (with_reducible exact ih0 _ _ _)
      | (with_reducible exact LeO.refl _)
      | (with_reducible exact LeO.none _)
      | (with_reducible refine LeO.ite ?_ ?_)
      | (with_reducible refine LeO.bind ?_ (fun _ => ?_))
      | exact ih0 _ _ _
      | exact LeO.none _
      | refine LeO.ite ?_ ?_
      | refine LeO.bind ?_ (fun _ => ?_)

/-! ### treadleref12_keys: function 45 -/
def treadleref12_keys.f  : Option (List ByteArray) := some (([(⟨#[105, 110, 99, 108, 117, 100, 101]⟩ : ByteArray), (⟨#[97, 115]⟩ : ByteArray), (⟨#[101, 120, 112, 111, 114, 116]⟩ : ByteArray), (⟨#[99, 111, 110, 115, 116]⟩ : ByteArray), (⟨#[102, 117, 110, 99]⟩ : ByteArray), (⟨#[118, 97, 114]⟩ : ByteArray), (⟨#[105, 102]⟩ : ByteArray), (⟨#[101, 108, 115, 101]⟩ : ByteArray), (⟨#[119, 104, 105, 108, 101]⟩ : ByteArray), (⟨#[114, 101, 116, 117, 114, 110]⟩ : ByteArray), (⟨#[112, 114, 105, 110, 116]⟩ : ByteArray), (⟨#[116, 114, 117, 101]⟩ : ByteArray), (⟨#[102, 97, 108, 115, 101]⟩ : ByteArray), (⟨#[105, 110, 116]⟩ : ByteArray), (⟨#[98, 111, 111, 108]⟩ : ByteArray), (⟨#[116, 101, 120, 116]⟩ : ByteArray)] : List ByteArray))

/-! ### treadleref12_Key: function 29 -/
def treadleref12_Key.f (k : Nat) (a0 : ByteArray) : Option (Bool) := (treadleref12_keys.f).bind fun t220 => ((treadleref12_among.f k t220 a0).bind fun t223 => (some t223))
theorem treadleref12_Key.mono : ∀ a0 k, LeO (treadleref12_Key.f k a0) (treadleref12_Key.f (k + 1) a0) := by
  intro a0 k
  unfold treadleref12_Key.f
  repeat' first
      | (with_reducible exact treadleref12_among.mono _ _ _)
      | (with_reducible exact LeO.refl _)
      | (with_reducible exact LeO.none _)
      | (with_reducible refine LeO.ite ?_ ?_)
      | (with_reducible refine LeO.bind ?_ (fun _ => ?_))
      | exact treadleref12_among.mono _ _ _
      | exact LeO.none _
      | refine LeO.ite ?_ ?_
      | refine LeO.bind ?_ (fun _ => ?_)

/-! ### treadleref12_half: function 72 -/
def treadleref12_half.f (a0 : Int) : Option (Int) := (treadleref12_Digit.f a0).bind fun t224 => (if t224 = true then (some ((a0 - 48) % 256)) else (if a0 ≥ 97 then (if a0 ≤ 102 then (some ((((a0 - 97) % 256) + 10) % 256)) else (some 16)) else (some 16)))

/-! ### treadleref12_piece: function 61 -/
mutual
def treadleref12_piece.j0 : Nat → ByteArray → Int → Int → Bool → Option (Int × Int)
  | 0, _, _, _, _ => none
  | k + 1, x0, x1, x35, x40 => if x40 = true then (if 0 ≤ (wrap64 (x1 + 1)) then (if (wrap64 (x1 + 1)) < (x0.size : Int) then (some (bt x0 (wrap64 (x1 + 1)), 2)) else (none)) else (none)) else (if x35 = 120 then (if (wrap64 (x1 + 3)) < (x0.size : Int) then (if 0 ≤ (wrap64 (x1 + 2)) then (if (wrap64 (x1 + 2)) < (x0.size : Int) then ((treadleref12_half.f (bt x0 (wrap64 (x1 + 2)))).bind fun t225 => (if t225 < 16 then (if 0 ≤ (wrap64 (x1 + 3)) then ((treadleref12_half.f (bt x0 (wrap64 (x1 + 3)))).bind fun t226 => (treadleref12_piece.j1 k x0 x1 (decide (t226 < 16)))) else (none)) else (treadleref12_piece.j1 k x0 x1 false))) else (none)) else (none)) else (treadleref12_piece.j1 k x0 x1 false)) else (some (0, 0)))
def treadleref12_piece.j1 : Nat → ByteArray → Int → Bool → Option (Int × Int)
  | 0, _, _, _ => none
  | k + 1, x0, x1, x69 => if x69 = true then (if 0 ≤ (wrap64 (x1 + 2)) then (if (wrap64 (x1 + 2)) < (x0.size : Int) then ((treadleref12_half.f (bt x0 (wrap64 (x1 + 2)))).bind fun t227 => (if 0 ≤ (wrap64 (x1 + 3)) then (if (wrap64 (x1 + 3)) < (x0.size : Int) then ((treadleref12_half.f (bt x0 (wrap64 (x1 + 3)))).bind fun t228 => (some (Go.bits .or .u8 ((t227 * 16) % 256) t228, 4))) else (none)) else (none))) else (none)) else (none)) else (some (0, 0))
end
def treadleref12_piece.f (k : Nat) (a0 : ByteArray) (a1 : Int) : Option (Int × Int) := if a1 ≥ (a0.size : Int) then (some (0, 0)) else (if 0 ≤ a1 then (if a1 < (a0.size : Int) then (if (bt a0 a1) = 92 then (if (wrap64 (a1 + 1)) ≥ (a0.size : Int) then (some (0, 0)) else (if 0 ≤ (wrap64 (a1 + 1)) then (if (wrap64 (a1 + 1)) < (a0.size : Int) then (if (bt a0 (wrap64 (a1 + 1))) = 110 then (some (10, 2)) else (if (bt a0 (wrap64 (a1 + 1))) = 116 then (some (9, 2)) else (if (bt a0 (wrap64 (a1 + 1))) = 34 then (treadleref12_piece.j0 k a0 a1 (bt a0 (wrap64 (a1 + 1))) ((bt a0 (wrap64 (a1 + 1))) == 34)) else (treadleref12_piece.j0 k a0 a1 (bt a0 (wrap64 (a1 + 1))) ((bt a0 (wrap64 (a1 + 1))) == 92))))) else (none)) else (none))) else (if (bt a0 a1) < 32 then (some (0, 0)) else (if (bt a0 a1) > 126 then (some (0, 0)) else (if (bt a0 a1) = 34 then (some (0, 0)) else (some (bt a0 a1, 1)))))) else (none)) else (none))
theorem treadleref12_piece.mono_l : ∀ k, (∀ y0 y1 y2 y3, LeO (treadleref12_piece.j0 k y0 y1 y2 y3) (treadleref12_piece.j0 (k + 1) y0 y1 y2 y3)) ∧ (∀ y0 y1 y2, LeO (treadleref12_piece.j1 k y0 y1 y2) (treadleref12_piece.j1 (k + 1) y0 y1 y2))
  | 0 => ⟨fun _ _ _ _ r h => by simp [treadleref12_piece.j0] at h, fun _ _ _ r h => by simp [treadleref12_piece.j1] at h⟩
  | k + 1 => by
    obtain ⟨ih0, ih1⟩ := treadleref12_piece.mono_l k
    refine ⟨?_, ?_⟩
    · intro y0 y1 y2 y3
      unfold treadleref12_piece.j0
      repeat' first
      | (with_reducible exact ih0 _ _ _ _)
      | (with_reducible exact ih1 _ _ _)
      | (with_reducible exact LeO.refl _)
      | (with_reducible exact LeO.none _)
      | (with_reducible refine LeO.ite ?_ ?_)
      | (with_reducible refine LeO.bind ?_ (fun _ => ?_))
      | exact ih0 _ _ _ _
      | exact ih1 _ _ _
      | exact LeO.none _
      | refine LeO.ite ?_ ?_
      | refine LeO.bind ?_ (fun _ => ?_)
    · intro y0 y1 y2
      unfold treadleref12_piece.j1
      repeat' first
      | (with_reducible exact ih0 _ _ _ _)
      | (with_reducible exact ih1 _ _ _)
      | (with_reducible exact LeO.refl _)
      | (with_reducible exact LeO.none _)
      | (with_reducible refine LeO.ite ?_ ?_)
      | (with_reducible refine LeO.bind ?_ (fun _ => ?_))
      | exact ih0 _ _ _ _
      | exact ih1 _ _ _
      | exact LeO.none _
      | refine LeO.ite ?_ ?_
      | refine LeO.bind ?_ (fun _ => ?_)
theorem treadleref12_piece.mono : ∀ a0 a1 k, LeO (treadleref12_piece.f k a0 a1) (treadleref12_piece.f (k + 1) a0 a1) := by
  intro a0 a1 k
  obtain ⟨ih0, ih1⟩ := treadleref12_piece.mono_l k
  unfold treadleref12_piece.f
  repeat' first
      | (with_reducible exact ih0 _ _ _ _)
      | (with_reducible exact ih1 _ _ _)
      | (with_reducible exact LeO.refl _)
      | (with_reducible exact LeO.none _)
      | (with_reducible refine LeO.ite ?_ ?_)
      | (with_reducible refine LeO.bind ?_ (fun _ => ?_))
      | exact ih0 _ _ _ _
      | exact ih1 _ _ _
      | exact LeO.none _
      | refine LeO.ite ?_ ?_
      | refine LeO.bind ?_ (fun _ => ?_)

/-! ### treadleref12_quoted: function 42 -/
mutual
def treadleref12_quoted.l0 : Nat → ByteArray → List Int → Int → Option (ByteArray × Int)
  | 0, _, _, _ => none
  | k + 1, x0, x6, x7 => if x7 < (x0.size : Int) then (if 0 ≤ x7 then (treadleref12_quoted.j1 k x0 x6 x7 ((bt x0 x7) == 34)) else (none)) else (treadleref12_quoted.j1 k x0 x6 x7 false)
def treadleref12_quoted.j1 : Nat → ByteArray → List Int → Int → Bool → Option (ByteArray × Int)
  | 0, _, _, _, _ => none
  | k + 1, x0, x6, x7, x21 => if x21 = true then (if (x6.length : Int) > 4096 then (some ((⟨#[]⟩ : ByteArray), (-1))) else (some (strOfNums x6, wrap64 (x7 + 1)))) else ((treadleref12_piece.f k x0 x7).bind fun bt229 => (if bt229.2 = 0 then (some ((⟨#[]⟩ : ByteArray), (-1))) else (if x6.length < 140737488355328 then (treadleref12_quoted.l0 k x0 (x6 ++ [bt229.1]) (wrap64 (x7 + bt229.2))) else (none))))
end
def treadleref12_quoted.f (k : Nat) (a0 : ByteArray) (a1 : Int) : Option (ByteArray × Int) := treadleref12_quoted.l0 k a0 ([] : List Int) (wrap64 (a1 + 1))
theorem treadleref12_quoted.mono_l : ∀ k, (∀ y0 y1 y2, LeO (treadleref12_quoted.l0 k y0 y1 y2) (treadleref12_quoted.l0 (k + 1) y0 y1 y2)) ∧ (∀ y0 y1 y2 y3, LeO (treadleref12_quoted.j1 k y0 y1 y2 y3) (treadleref12_quoted.j1 (k + 1) y0 y1 y2 y3))
  | 0 => ⟨fun _ _ _ r h => by simp [treadleref12_quoted.l0] at h, fun _ _ _ _ r h => by simp [treadleref12_quoted.j1] at h⟩
  | k + 1 => by
    obtain ⟨ih0, ih1⟩ := treadleref12_quoted.mono_l k
    refine ⟨?_, ?_⟩
    · intro y0 y1 y2
      unfold treadleref12_quoted.l0
      repeat' first
      | (with_reducible exact ih0 _ _ _)
      | (with_reducible exact ih1 _ _ _ _)
      | (with_reducible exact treadleref12_piece.mono _ _ _)
      | (with_reducible exact LeO.refl _)
      | (with_reducible exact LeO.none _)
      | (with_reducible refine LeO.ite ?_ ?_)
      | (with_reducible refine LeO.bind ?_ (fun _ => ?_))
      | exact ih0 _ _ _
      | exact ih1 _ _ _ _
      | exact treadleref12_piece.mono _ _ _
      | exact LeO.none _
      | refine LeO.ite ?_ ?_
      | refine LeO.bind ?_ (fun _ => ?_)
    · intro y0 y1 y2 y3
      unfold treadleref12_quoted.j1
      repeat' first
      | (with_reducible exact ih0 _ _ _)
      | (with_reducible exact ih1 _ _ _ _)
      | (with_reducible exact treadleref12_piece.mono _ _ _)
      | (with_reducible exact LeO.refl _)
      | (with_reducible exact LeO.none _)
      | (with_reducible refine LeO.ite ?_ ?_)
      | (with_reducible refine LeO.bind ?_ (fun _ => ?_))
      | exact ih0 _ _ _
      | exact ih1 _ _ _ _
      | exact treadleref12_piece.mono _ _ _
      | exact LeO.none _
      | refine LeO.ite ?_ ?_
      | refine LeO.bind ?_ (fun _ => ?_)
theorem treadleref12_quoted.mono : ∀ a0 a1 k, LeO (treadleref12_quoted.f k a0 a1) (treadleref12_quoted.f (k + 1) a0 a1) := by
  intro a0 a1 k
  obtain ⟨ih0, ih1⟩ := treadleref12_quoted.mono_l k
  unfold treadleref12_quoted.f
  repeat' first
      | (with_reducible exact ih0 _ _ _)
      | (with_reducible exact ih1 _ _ _ _)
      | (with_reducible exact treadleref12_piece.mono _ _ _)
      | (with_reducible exact LeO.refl _)
      | (with_reducible exact LeO.none _)
      | (with_reducible refine LeO.ite ?_ ?_)
      | (with_reducible refine LeO.bind ?_ (fun _ => ?_))
      | exact ih0 _ _ _
      | exact ih1 _ _ _ _
      | exact treadleref12_piece.mono _ _ _
      | exact LeO.none _
      | refine LeO.ite ?_ ?_
      | refine LeO.bind ?_ (fun _ => ?_)

/-! ### treadleref12_Letter: function 56 -/
def treadleref12_Letter.f (a0 : Int) : Option (Bool) := if a0 = 95 then (some true) else (if a0 ≥ 97 then (if a0 ≤ 122 then (some true) else (if a0 ≥ 65 then (some (decide (a0 ≤ 90))) else (some false))) else (if a0 ≥ 65 then (some (decide (a0 ≤ 90))) else (some false)))

/-! ### treadleref12_sign: function 57 -/
def treadleref12_sign.j0 : Nat → ByteArray → Int → Bool → Option (Int)
  | 0, _, _, _ => none
  | k + 1, x0, x1, x18 => if x18 = true then (some 2) else (if 0 ≤ x1 then (if x1 ≤ (wrap64 (x1 + 1)) then (if (wrap64 (x1 + 1)) ≤ (x0.size : Int) then ((treadleref12_among.f k (([(⟨#[40]⟩ : ByteArray), (⟨#[41]⟩ : ByteArray), (⟨#[123]⟩ : ByteArray), (⟨#[125]⟩ : ByteArray), (⟨#[44]⟩ : ByteArray), (⟨#[59]⟩ : ByteArray), (⟨#[58]⟩ : ByteArray), (⟨#[46]⟩ : ByteArray), (⟨#[61]⟩ : ByteArray), (⟨#[60]⟩ : ByteArray), (⟨#[62]⟩ : ByteArray), (⟨#[43]⟩ : ByteArray), (⟨#[45]⟩ : ByteArray), (⟨#[42]⟩ : ByteArray), (⟨#[47]⟩ : ByteArray), (⟨#[37]⟩ : ByteArray), (⟨#[33]⟩ : ByteArray), (⟨#[35]⟩ : ByteArray)] : List ByteArray)) (x0.extract (x1 : Int).toNat ((wrap64 (x1 + 1)) : Int).toNat)).bind fun t241 => (if t241 = true then (some 1) else (some 0))) else (none)) else (none)) else (none))
def treadleref12_sign.f (k : Nat) (a0 : ByteArray) (a1 : Int) : Option (Int) := if (wrap64 (a1 + 2)) ≤ (a0.size : Int) then (if 0 ≤ a1 then (if a1 ≤ (wrap64 (a1 + 2)) then ((treadleref12_among.f k (([(⟨#[61, 61]⟩ : ByteArray), (⟨#[33, 61]⟩ : ByteArray), (⟨#[60, 61]⟩ : ByteArray), (⟨#[62, 61]⟩ : ByteArray), (⟨#[43, 43]⟩ : ByteArray), (⟨#[38, 38]⟩ : ByteArray), (⟨#[124, 124]⟩ : ByteArray)] : List ByteArray)) (a0.extract (a1 : Int).toNat ((wrap64 (a1 + 2)) : Int).toNat)).bind fun t237 => (treadleref12_sign.j0 k a0 a1 t237)) else (none)) else (none)) else (treadleref12_sign.j0 k a0 a1 false)
theorem treadleref12_sign.mono_l : ∀ k, (∀ y0 y1 y2, LeO (treadleref12_sign.j0 k y0 y1 y2) (treadleref12_sign.j0 (k + 1) y0 y1 y2))
  | 0 => fun _ _ _ r h => by simp [treadleref12_sign.j0] at h
  | k + 1 => by
    have ih0 := treadleref12_sign.mono_l k
    · intro y0 y1 y2
      unfold treadleref12_sign.j0
      repeat' first
      | (with_reducible exact ih0 _ _ _)
      | (with_reducible exact treadleref12_among.mono _ _ _)
      | (with_reducible exact LeO.refl _)
      | (with_reducible exact LeO.none _)
      | (with_reducible refine LeO.ite ?_ ?_)
      | (with_reducible refine LeO.bind ?_ (fun _ => ?_))
      | exact ih0 _ _ _
      | exact treadleref12_among.mono _ _ _
      | exact LeO.none _
      | refine LeO.ite ?_ ?_
      | refine LeO.bind ?_ (fun _ => ?_)
theorem treadleref12_sign.mono : ∀ a0 a1 k, LeO (treadleref12_sign.f k a0 a1) (treadleref12_sign.f (k + 1) a0 a1) := by
  intro a0 a1 k
  have ih0 := treadleref12_sign.mono_l k
  unfold treadleref12_sign.f
  repeat' first
      | (with_reducible exact ih0 _ _ _)
      | (with_reducible exact treadleref12_among.mono _ _ _)
      | (with_reducible exact LeO.refl _)
      | (with_reducible exact LeO.none _)
      | (with_reducible refine LeO.ite ?_ ?_)
      | (with_reducible refine LeO.bind ?_ (fun _ => ?_))
      | exact ih0 _ _ _
      | exact treadleref12_among.mono _ _ _
      | exact LeO.none _
      | refine LeO.ite ?_ ?_
      | refine LeO.bind ?_ (fun _ => ?_)

/-! ### treadleref12_token: function 36 -/
mutual
def treadleref12_token.j1 : Nat → ByteArray → Int → Int → Option (Int × Int × Int × Int)
  | 0, _, _, _ => none
  | k + 1, x0, x1, x6 => if (wrap64 (x6 - x1)) > 32 then (some (0, x1, 0, 123)) else (if 0 ≤ x1 then (if x1 ≤ x6 then (if x6 ≤ (x0.size : Int) then ((treadleref12_Key.f k (x0.extract (x1 : Int).toNat (x6 : Int).toNat)).bind fun t246 => (if t246 = true then (some (4, x1, x6, 0)) else (some (1, x1, x6, 0)))) else (none)) else (none)) else (none))
def treadleref12_token.l0 : Nat → ByteArray → Int → Int → Option (Int × Int × Int × Int)
  | 0, _, _, _ => none
  | k + 1, x0, x1, x6 => if x6 < (x0.size : Int) then (if 0 ≤ x6 then ((treadleref12_Letter.f (bt x0 x6)).bind fun t244 => (if t244 = true then (treadleref12_token.l0 k x0 x1 (wrap64 (x6 + 1))) else ((treadleref12_Digit.f (bt x0 x6)).bind fun t245 => (if t245 = true then (treadleref12_token.l0 k x0 x1 (wrap64 (x6 + 1))) else (treadleref12_token.j1 k x0 x1 x6))))) else (none)) else (treadleref12_token.j1 k x0 x1 x6)
def treadleref12_token.j3 : Nat → ByteArray → Int → Int → Option (Int × Int × Int × Int)
  | 0, _, _, _ => none
  | k + 1, x0, x1, x6 => if 0 ≤ x1 then (if x1 ≤ x6 then (if x6 ≤ (x0.size : Int) then ((treadleref12_Number.f k (x0.extract (x1 : Int).toNat (x6 : Int).toNat)).bind fun bt249 => (if bt249.2 = 0 then (if x6 < (x0.size : Int) then (if 0 ≤ x6 then ((treadleref12_Letter.f (bt x0 x6)).bind fun t251 => (treadleref12_token.j4 k x1 x6 t251)) else (none)) else (treadleref12_token.j4 k x1 x6 false)) else (treadleref12_token.j4 k x1 x6 true))) else (none)) else (none)) else (none)
def treadleref12_token.j4 : Nat → Int → Int → Bool → Option (Int × Int × Int × Int)
  | 0, _, _, _ => none
  | k + 1, x1, x6, x98 => if x98 = true then (some (0, x1, 0, 121)) else (some (2, x1, x6, 0))
def treadleref12_token.l1 : Nat → ByteArray → Int → Int → Option (Int × Int × Int × Int)
  | 0, _, _, _ => none
  | k + 1, x0, x1, x6 => if x6 < (x0.size : Int) then (if 0 ≤ x6 then ((treadleref12_Digit.f (bt x0 x6)).bind fun t248 => (if t248 = true then (treadleref12_token.l1 k x0 x1 (wrap64 (x6 + 1))) else (treadleref12_token.j3 k x0 x1 x6))) else (none)) else (treadleref12_token.j3 k x0 x1 x6)
end
def treadleref12_token.f (k : Nat) (a0 : ByteArray) (a1 : Int) : Option (Int × Int × Int × Int) := if a1 = (a0.size : Int) then (some (0, a1, a1, 0)) else (if 0 ≤ a1 then (if a1 < (a0.size : Int) then ((treadleref12_Letter.f (bt a0 a1)).bind fun t243 => (if t243 = true then (treadleref12_token.l0 k a0 a1 a1) else ((treadleref12_Digit.f (bt a0 a1)).bind fun t247 => (if t247 = true then (treadleref12_token.l1 k a0 a1 a1) else (if (bt a0 a1) = 34 then ((treadleref12_quoted.f k a0 a1).bind fun bt252 => (if bt252.2 < 0 then (some (0, a1, 0, 122)) else (some (3, a1, bt252.2, 0)))) else ((treadleref12_sign.f k a0 a1).bind fun t254 => (if t254 = 0 then (some (0, a1, 0, 120)) else (some (5, a1, wrap64 (a1 + t254), 0))))))))) else (none)) else (none))
theorem treadleref12_token.mono_l : ∀ k, (∀ y0 y1 y2, LeO (treadleref12_token.j1 k y0 y1 y2) (treadleref12_token.j1 (k + 1) y0 y1 y2)) ∧ (∀ y0 y1 y2, LeO (treadleref12_token.l0 k y0 y1 y2) (treadleref12_token.l0 (k + 1) y0 y1 y2)) ∧ (∀ y0 y1 y2, LeO (treadleref12_token.j3 k y0 y1 y2) (treadleref12_token.j3 (k + 1) y0 y1 y2)) ∧ (∀ y0 y1 y2, LeO (treadleref12_token.j4 k y0 y1 y2) (treadleref12_token.j4 (k + 1) y0 y1 y2)) ∧ (∀ y0 y1 y2, LeO (treadleref12_token.l1 k y0 y1 y2) (treadleref12_token.l1 (k + 1) y0 y1 y2))
  | 0 => ⟨fun _ _ _ r h => by simp [treadleref12_token.j1] at h, fun _ _ _ r h => by simp [treadleref12_token.l0] at h, fun _ _ _ r h => by simp [treadleref12_token.j3] at h, fun _ _ _ r h => by simp [treadleref12_token.j4] at h, fun _ _ _ r h => by simp [treadleref12_token.l1] at h⟩
  | k + 1 => by
    obtain ⟨ih0, ih1, ih2, ih3, ih4⟩ := treadleref12_token.mono_l k
    refine ⟨?_, ?_, ?_, ?_, ?_⟩
    · intro y0 y1 y2
      unfold treadleref12_token.j1
      repeat' first
      | (with_reducible exact ih0 _ _ _)
      | (with_reducible exact ih1 _ _ _)
      | (with_reducible exact ih2 _ _ _)
      | (with_reducible exact ih3 _ _ _)
      | (with_reducible exact ih4 _ _ _)
      | (with_reducible exact treadleref12_Key.mono _ _)
      | (with_reducible exact treadleref12_Number.mono _ _)
      | (with_reducible exact treadleref12_quoted.mono _ _ _)
      | (with_reducible exact treadleref12_sign.mono _ _ _)
      | (with_reducible exact LeO.refl _)
      | (with_reducible exact LeO.none _)
      | (with_reducible refine LeO.ite ?_ ?_)
      | (with_reducible refine LeO.bind ?_ (fun _ => ?_))
      | exact ih0 _ _ _
      | exact ih1 _ _ _
      | exact ih2 _ _ _
      | exact ih3 _ _ _
      | exact ih4 _ _ _
      | exact treadleref12_Key.mono _ _
      | exact treadleref12_Number.mono _ _
      | exact treadleref12_quoted.mono _ _ _
      | exact treadleref12_sign.mono _ _ _
      | exact LeO.none _
      | refine LeO.ite ?_ ?_
      | refine LeO.bind ?_ (fun _ => ?_)
    · intro y0 y1 y2
      unfold treadleref12_token.l0
      repeat' first
      | (with_reducible exact ih0 _ _ _)
      | (with_reducible exact ih1 _ _ _)
      | (with_reducible exact ih2 _ _ _)
      | (with_reducible exact ih3 _ _ _)
      | (with_reducible exact ih4 _ _ _)
      | (with_reducible exact treadleref12_Key.mono _ _)
      | (with_reducible exact treadleref12_Number.mono _ _)
      | (with_reducible exact treadleref12_quoted.mono _ _ _)
      | (with_reducible exact treadleref12_sign.mono _ _ _)
      | (with_reducible exact LeO.refl _)
      | (with_reducible exact LeO.none _)
      | (with_reducible refine LeO.ite ?_ ?_)
      | (with_reducible refine LeO.bind ?_ (fun _ => ?_))
      | exact ih0 _ _ _
      | exact ih1 _ _ _
      | exact ih2 _ _ _
      | exact ih3 _ _ _
      | exact ih4 _ _ _
      | exact treadleref12_Key.mono _ _
      | exact treadleref12_Number.mono _ _
      | exact treadleref12_quoted.mono _ _ _
      | exact treadleref12_sign.mono _ _ _
      | exact LeO.none _
      | refine LeO.ite ?_ ?_
      | refine LeO.bind ?_ (fun _ => ?_)
    · intro y0 y1 y2
      unfold treadleref12_token.j3
      repeat' first
      | (with_reducible exact ih0 _ _ _)
      | (with_reducible exact ih1 _ _ _)
      | (with_reducible exact ih2 _ _ _)
      | (with_reducible exact ih3 _ _ _)
      | (with_reducible exact ih4 _ _ _)
      | (with_reducible exact treadleref12_Key.mono _ _)
      | (with_reducible exact treadleref12_Number.mono _ _)
      | (with_reducible exact treadleref12_quoted.mono _ _ _)
      | (with_reducible exact treadleref12_sign.mono _ _ _)
      | (with_reducible exact LeO.refl _)
      | (with_reducible exact LeO.none _)
      | (with_reducible refine LeO.ite ?_ ?_)
      | (with_reducible refine LeO.bind ?_ (fun _ => ?_))
      | exact ih0 _ _ _
      | exact ih1 _ _ _
      | exact ih2 _ _ _
      | exact ih3 _ _ _
      | exact ih4 _ _ _
      | exact treadleref12_Key.mono _ _
      | exact treadleref12_Number.mono _ _
      | exact treadleref12_quoted.mono _ _ _
      | exact treadleref12_sign.mono _ _ _
      | exact LeO.none _
      | refine LeO.ite ?_ ?_
      | refine LeO.bind ?_ (fun _ => ?_)
    · intro y0 y1 y2
      unfold treadleref12_token.j4
      repeat' first
      | (with_reducible exact ih0 _ _ _)
      | (with_reducible exact ih1 _ _ _)
      | (with_reducible exact ih2 _ _ _)
      | (with_reducible exact ih3 _ _ _)
      | (with_reducible exact ih4 _ _ _)
      | (with_reducible exact treadleref12_Key.mono _ _)
      | (with_reducible exact treadleref12_Number.mono _ _)
      | (with_reducible exact treadleref12_quoted.mono _ _ _)
      | (with_reducible exact treadleref12_sign.mono _ _ _)
      | (with_reducible exact LeO.refl _)
      | (with_reducible exact LeO.none _)
      | (with_reducible refine LeO.ite ?_ ?_)
      | (with_reducible refine LeO.bind ?_ (fun _ => ?_))
      | exact ih0 _ _ _
      | exact ih1 _ _ _
      | exact ih2 _ _ _
      | exact ih3 _ _ _
      | exact ih4 _ _ _
      | exact treadleref12_Key.mono _ _
      | exact treadleref12_Number.mono _ _
      | exact treadleref12_quoted.mono _ _ _
      | exact treadleref12_sign.mono _ _ _
      | exact LeO.none _
      | refine LeO.ite ?_ ?_
      | refine LeO.bind ?_ (fun _ => ?_)
    · intro y0 y1 y2
      unfold treadleref12_token.l1
      repeat' first
      | (with_reducible exact ih0 _ _ _)
      | (with_reducible exact ih1 _ _ _)
      | (with_reducible exact ih2 _ _ _)
      | (with_reducible exact ih3 _ _ _)
      | (with_reducible exact ih4 _ _ _)
      | (with_reducible exact treadleref12_Key.mono _ _)
      | (with_reducible exact treadleref12_Number.mono _ _)
      | (with_reducible exact treadleref12_quoted.mono _ _ _)
      | (with_reducible exact treadleref12_sign.mono _ _ _)
      | (with_reducible exact LeO.refl _)
      | (with_reducible exact LeO.none _)
      | (with_reducible refine LeO.ite ?_ ?_)
      | (with_reducible refine LeO.bind ?_ (fun _ => ?_))
      | exact ih0 _ _ _
      | exact ih1 _ _ _
      | exact ih2 _ _ _
      | exact ih3 _ _ _
      | exact ih4 _ _ _
      | exact treadleref12_Key.mono _ _
      | exact treadleref12_Number.mono _ _
      | exact treadleref12_quoted.mono _ _ _
      | exact treadleref12_sign.mono _ _ _
      | exact LeO.none _
      | refine LeO.ite ?_ ?_
      | refine LeO.bind ?_ (fun _ => ?_)
theorem treadleref12_token.mono : ∀ a0 a1 k, LeO (treadleref12_token.f k a0 a1) (treadleref12_token.f (k + 1) a0 a1) := by
  intro a0 a1 k
  obtain ⟨ih0, ih1, ih2, ih3, ih4⟩ := treadleref12_token.mono_l k
  unfold treadleref12_token.f
  repeat' first
      | (with_reducible exact ih0 _ _ _)
      | (with_reducible exact ih1 _ _ _)
      | (with_reducible exact ih2 _ _ _)
      | (with_reducible exact ih3 _ _ _)
      | (with_reducible exact ih4 _ _ _)
      | (with_reducible exact treadleref12_Key.mono _ _)
      | (with_reducible exact treadleref12_Number.mono _ _)
      | (with_reducible exact treadleref12_quoted.mono _ _ _)
      | (with_reducible exact treadleref12_sign.mono _ _ _)
      | (with_reducible exact LeO.refl _)
      | (with_reducible exact LeO.none _)
      | (with_reducible refine LeO.ite ?_ ?_)
      | (with_reducible refine LeO.bind ?_ (fun _ => ?_))
      | exact ih0 _ _ _
      | exact ih1 _ _ _
      | exact ih2 _ _ _
      | exact ih3 _ _ _
      | exact ih4 _ _ _
      | exact treadleref12_Key.mono _ _
      | exact treadleref12_Number.mono _ _
      | exact treadleref12_quoted.mono _ _ _
      | exact treadleref12_sign.mono _ _ _
      | exact LeO.none _
      | refine LeO.ite ?_ ?_
      | refine LeO.bind ?_ (fun _ => ?_)

/-! ### treadleref12_All: function 18 -/
def treadleref12_All.l0 : Nat → ByteArray → List (S24) → Int → Option ((List (S24)) × Int × Int)
  | 0, _, _, _ => none
  | k + 1, x0, x4, x5 => (treadleref12_Gap.f k x0 x5).bind fun t256 => ((treadleref12_token.f k x0 t256).bind fun bt257 => (if bt257.2.2.2 = 0 then (if x4.length < 5864062014805 then ((some (x4 ++ [(⟨bt257.1, bt257.2.1, bt257.2.2.1⟩ : S24)] : List (S24))).bind fun y262 => (if bt257.1 = 0 then (some (y262, 0, 0)) else (treadleref12_All.l0 k x0 y262 bt257.2.2.1))) else (none)) else (some (x4, bt257.2.2.2, bt257.2.1))))
def treadleref12_All.f (k : Nat) (a0 : ByteArray) : Option ((List (S24)) × Int × Int) := if (a0.size : Int) > 65536 then (some (([] : List (S24)), 3, 0)) else (treadleref12_All.l0 k a0 ([] : List (S24)) 0)
theorem treadleref12_All.mono_l : ∀ k, (∀ y0 y1 y2, LeO (treadleref12_All.l0 k y0 y1 y2) (treadleref12_All.l0 (k + 1) y0 y1 y2))
  | 0 => fun _ _ _ r h => by simp [treadleref12_All.l0] at h
  | k + 1 => by
    have ih0 := treadleref12_All.mono_l k
    · intro y0 y1 y2
      unfold treadleref12_All.l0
      repeat' first
      | (with_reducible exact ih0 _ _ _)
      | (with_reducible exact treadleref12_Gap.mono _ _ _)
      | (with_reducible exact treadleref12_token.mono _ _ _)
      | (with_reducible exact LeO.refl _)
      | (with_reducible exact LeO.none _)
      | (with_reducible refine LeO.ite ?_ ?_)
      | (with_reducible refine LeO.bind ?_ (fun _ => ?_))
      | exact ih0 _ _ _
      | exact treadleref12_Gap.mono _ _ _
      | exact treadleref12_token.mono _ _ _
      | exact LeO.none _
      | refine LeO.ite ?_ ?_
      | refine LeO.bind ?_ (fun _ => ?_)
theorem treadleref12_All.mono : ∀ a0 k, LeO (treadleref12_All.f k a0) (treadleref12_All.f (k + 1) a0) := by
  intro a0 k
  have ih0 := treadleref12_All.mono_l k
  unfold treadleref12_All.f
  repeat' first
      | (with_reducible exact ih0 _ _ _)
      | (with_reducible exact treadleref12_Gap.mono _ _ _)
      | (with_reducible exact treadleref12_token.mono _ _ _)
      | (with_reducible exact LeO.refl _)
      | (with_reducible exact LeO.none _)
      | (with_reducible refine LeO.ite ?_ ?_)
      | (with_reducible refine LeO.bind ?_ (fun _ => ?_))
      | exact ih0 _ _ _
      | exact treadleref12_Gap.mono _ _ _
      | exact treadleref12_token.mono _ _ _
      | exact LeO.none _
      | refine LeO.ite ?_ ?_
      | refine LeO.bind ?_ (fun _ => ?_)

/-! ### treadleref12_Filled: function 37 -/
def treadleref12_Filled.l0 : Nat → List Int → ByteArray → Int → Option (ByteArray)
  | 0, _, _, _ => none
  | k + 1, x0, x3, x4 => if x4 < (x0.length : Int) then (if 0 ≤ x4 then (if (Int.tmod (rd x0 x4) 6) = 0 then (if x3.size + 1 ≤ 9223372036854775807 then (treadleref12_Filled.l0 k x0 (x3 ++ (⟨#[32]⟩ : ByteArray)) (wrap64 (x4 + 1))) else (none)) else (if (Int.tmod (rd x0 x4) 6) = 1 then (if x3.size + 1 ≤ 9223372036854775807 then (treadleref12_Filled.l0 k x0 (x3 ++ (⟨#[9]⟩ : ByteArray)) (wrap64 (x4 + 1))) else (none)) else (if (Int.tmod (rd x0 x4) 6) = 2 then (if x3.size + 1 ≤ 9223372036854775807 then (treadleref12_Filled.l0 k x0 (x3 ++ (⟨#[10]⟩ : ByteArray)) (wrap64 (x4 + 1))) else (none)) else (if (Int.tmod (rd x0 x4) 6) = 3 then (if x3.size + 1 ≤ 9223372036854775807 then (treadleref12_Filled.l0 k x0 (x3 ++ (⟨#[13]⟩ : ByteArray)) (wrap64 (x4 + 1))) else (none)) else (if (Int.tmod (rd x0 x4) 6) = 4 then (if x3.size + 5 ≤ 9223372036854775807 then (treadleref12_Filled.l0 k x0 (x3 ++ (⟨#[47, 47, 32, 120, 10]⟩ : ByteArray)) (wrap64 (x4 + 1))) else (none)) else (if (Int.tmod (rd x0 x4) 6) = 5 then (if x3.size + 4 ≤ 9223372036854775807 then (treadleref12_Filled.l0 k x0 (x3 ++ (⟨#[47, 47, 34, 10]⟩ : ByteArray)) (wrap64 (x4 + 1))) else (none)) else (treadleref12_Filled.l0 k x0 x3 (wrap64 (x4 + 1))))))))) else (none)) else (if x3.size + 1 ≤ 9223372036854775807 then (some (x3 ++ (⟨#[32]⟩ : ByteArray))) else (none))
def treadleref12_Filled.f (k : Nat) (l0 : List Int) : Option (ByteArray) := treadleref12_Filled.l0 k l0 (⟨#[]⟩ : ByteArray) 0
theorem treadleref12_Filled.mono_l : ∀ k, (∀ y0 y1 y2, LeO (treadleref12_Filled.l0 k y0 y1 y2) (treadleref12_Filled.l0 (k + 1) y0 y1 y2))
  | 0 => fun _ _ _ r h => by simp [treadleref12_Filled.l0] at h
  | k + 1 => by
    have ih0 := treadleref12_Filled.mono_l k
    · intro y0 y1 y2
      unfold treadleref12_Filled.l0
      repeat' first
      | (with_reducible exact ih0 _ _ _)
      | (with_reducible exact LeO.refl _)
      | (with_reducible exact LeO.none _)
      | (with_reducible refine LeO.ite ?_ ?_)
      | (with_reducible refine LeO.bind ?_ (fun _ => ?_))
      | exact ih0 _ _ _
      | exact LeO.none _
      | refine LeO.ite ?_ ?_
      | refine LeO.bind ?_ (fun _ => ?_)
theorem treadleref12_Filled.mono : ∀ a0 k, LeO (treadleref12_Filled.f k a0) (treadleref12_Filled.f (k + 1) a0) := by
  intro a0 k
  have ih0 := treadleref12_Filled.mono_l k
  unfold treadleref12_Filled.f
  repeat' first
      | (with_reducible exact ih0 _ _ _)
      | (with_reducible exact LeO.refl _)
      | (with_reducible exact LeO.none _)
      | (with_reducible refine LeO.ite ?_ ?_)
      | (with_reducible refine LeO.bind ?_ (fun _ => ?_))
      | exact ih0 _ _ _
      | exact LeO.none _
      | refine LeO.ite ?_ ?_
      | refine LeO.bind ?_ (fun _ => ?_)

/-! ### treadleref12_Next: function 15 -/
def treadleref12_Next.j0 : Nat → ByteArray → Int → Bool → Option (Int × Int × Int × Int)
  | 0, _, _, _ => none
  | k + 1, x0, x1, x17 => if x17 = true then (some (0, 0, 0, 1)) else ((treadleref12_Gap.f k x0 x1).bind fun t291 => ((treadleref12_token.f k x0 t291).bind fun bt292 => (some (bt292.1, bt292.2.1, bt292.2.2.1, bt292.2.2.2))))
def treadleref12_Next.f (k : Nat) (a0 : ByteArray) (a1 : Int) : Option (Int × Int × Int × Int) := if (a0.size : Int) > 65536 then (some (0, 0, 0, 3)) else (if a1 < 0 then (treadleref12_Next.j0 k a0 a1 true) else (treadleref12_Next.j0 k a0 a1 (decide (a1 > (a0.size : Int)))))
theorem treadleref12_Next.mono_l : ∀ k, (∀ y0 y1 y2, LeO (treadleref12_Next.j0 k y0 y1 y2) (treadleref12_Next.j0 (k + 1) y0 y1 y2))
  | 0 => fun _ _ _ r h => by simp [treadleref12_Next.j0] at h
  | k + 1 => by
    have ih0 := treadleref12_Next.mono_l k
    · intro y0 y1 y2
      unfold treadleref12_Next.j0
      repeat' first
      | (with_reducible exact ih0 _ _ _)
      | (with_reducible exact treadleref12_Gap.mono _ _ _)
      | (with_reducible exact treadleref12_token.mono _ _ _)
      | (with_reducible exact LeO.refl _)
      | (with_reducible exact LeO.none _)
      | (with_reducible refine LeO.ite ?_ ?_)
      | (with_reducible refine LeO.bind ?_ (fun _ => ?_))
      | exact ih0 _ _ _
      | exact treadleref12_Gap.mono _ _ _
      | exact treadleref12_token.mono _ _ _
      | exact LeO.none _
      | refine LeO.ite ?_ ?_
      | refine LeO.bind ?_ (fun _ => ?_)
theorem treadleref12_Next.mono : ∀ a0 a1 k, LeO (treadleref12_Next.f k a0 a1) (treadleref12_Next.f (k + 1) a0 a1) := by
  intro a0 a1 k
  have ih0 := treadleref12_Next.mono_l k
  unfold treadleref12_Next.f
  repeat' first
      | (with_reducible exact ih0 _ _ _)
      | (with_reducible exact treadleref12_Gap.mono _ _ _)
      | (with_reducible exact treadleref12_token.mono _ _ _)
      | (with_reducible exact LeO.refl _)
      | (with_reducible exact LeO.none _)
      | (with_reducible refine LeO.ite ?_ ?_)
      | (with_reducible refine LeO.bind ?_ (fun _ => ?_))
      | exact ih0 _ _ _
      | exact treadleref12_Gap.mono _ _ _
      | exact treadleref12_token.mono _ _ _
      | exact LeO.none _
      | refine LeO.ite ?_ ?_
      | refine LeO.bind ?_ (fun _ => ?_)

/-! ### treadlelaw12_LexNexts: function 3 -/
def treadlelaw12_LexNexts.f (k : Nat) (a0 : ByteArray) (a1 : Int) : Option (Bool) := (lex_Next.f k a0 a1).bind fun bt296 => ((treadleref12_Next.f k a0 a1).bind fun bt301 => (if (bt296.1 == bt301.1 && (bt296.2.1 == bt301.2.1 && (bt296.2.2.1 == bt301.2.2.1))) = true then (if bt296.2.2.2 = bt301.2.2.2 then ((treadlelaw12_awake.f k).bind fun t306 => (some t306)) else (some false)) else (some false)))
theorem treadlelaw12_LexNexts.mono : ∀ a0 a1 k, LeO (treadlelaw12_LexNexts.f k a0 a1) (treadlelaw12_LexNexts.f (k + 1) a0 a1) := by
  intro a0 a1 k
  unfold treadlelaw12_LexNexts.f
  repeat' first
      | (with_reducible exact lex_Next.mono _ _ _)
      | (with_reducible exact treadlelaw12_awake.mono _)
      | (with_reducible exact treadleref12_Next.mono _ _ _)
      | (with_reducible exact LeO.refl _)
      | (with_reducible exact LeO.none _)
      | (with_reducible refine LeO.ite ?_ ?_)
      | (with_reducible refine LeO.bind ?_ (fun _ => ?_))
      | exact lex_Next.mono _ _ _
      | exact treadlelaw12_awake.mono _
      | exact treadleref12_Next.mono _ _ _
      | exact LeO.none _
      | refine LeO.ite ?_ ?_
      | refine LeO.bind ?_ (fun _ => ?_)

/-! ### treadleref12_Same: function 19 -/
def treadleref12_Same.l0 : Nat → List (S24) → List (S24) → Int → Option (Bool)
  | 0, _, _, _ => none
  | k + 1, x0, x1, x5 => if x5 < (x0.length : Int) then (if 0 ≤ x5 then (if x5 < (x1.length : Int) then (if (!(((rd_T24 x0 x5).f0) == ((rd_T24 x1 x5).f0)) || (!(((rd_T24 x0 x5).f1) == ((rd_T24 x1 x5).f1)) || (!(((rd_T24 x0 x5).f2) == ((rd_T24 x1 x5).f2))))) = true then (some false) else (treadleref12_Same.l0 k x0 x1 (wrap64 (x5 + 1)))) else (none)) else (none)) else (some true)
def treadleref12_Same.f (k : Nat) (l0 : List (S24)) (l1 : List (S24)) : Option (Bool) := if (l0.length : Int) = (l1.length : Int) then (treadleref12_Same.l0 k l0 l1 0) else (some false)
theorem treadleref12_Same.mono_l : ∀ k, (∀ y0 y1 y2, LeO (treadleref12_Same.l0 k y0 y1 y2) (treadleref12_Same.l0 (k + 1) y0 y1 y2))
  | 0 => fun _ _ _ r h => by simp [treadleref12_Same.l0] at h
  | k + 1 => by
    have ih0 := treadleref12_Same.mono_l k
    · intro y0 y1 y2
      unfold treadleref12_Same.l0
      repeat' first
      | (with_reducible exact ih0 _ _ _)
      | (with_reducible exact LeO.refl _)
      | (with_reducible exact LeO.none _)
      | (with_reducible refine LeO.ite ?_ ?_)
      | (with_reducible refine LeO.bind ?_ (fun _ => ?_))
      | exact ih0 _ _ _
      | exact LeO.none _
      | refine LeO.ite ?_ ?_
      | refine LeO.bind ?_ (fun _ => ?_)
theorem treadleref12_Same.mono : ∀ a0 a1 k, LeO (treadleref12_Same.f k a0 a1) (treadleref12_Same.f (k + 1) a0 a1) := by
  intro a0 a1 k
  have ih0 := treadleref12_Same.mono_l k
  unfold treadleref12_Same.f
  repeat' first
      | (with_reducible exact ih0 _ _ _)
      | (with_reducible exact LeO.refl _)
      | (with_reducible exact LeO.none _)
      | (with_reducible refine LeO.ite ?_ ?_)
      | (with_reducible refine LeO.bind ?_ (fun _ => ?_))
      | exact ih0 _ _ _
      | exact LeO.none _
      | refine LeO.ite ?_ ?_
      | refine LeO.bind ?_ (fun _ => ?_)

/-! ### treadlelaw12_LexAlls: function 4 -/
def treadlelaw12_LexAlls.f (k : Nat) (a0 : ByteArray) : Option (Bool) := (lex_All.f k a0).bind fun bt309 => ((treadleref12_All.f k a0).bind fun bt315 => (if (!(bt309.2.1 == bt315.2.1) || (!(bt309.2.2 == bt315.2.2))) = true then (some false) else (if (!(bt315.2.1 == 0) || (!(bt315.2.2 == 0))) = true then (if (bt309.1.length : Int) = 0 then ((treadlelaw12_awake.f k).bind fun t321 => (some t321)) else (some false)) else ((treadleref12_Same.f k bt309.1 bt315.1).bind fun t322 => (if t322 = true then ((treadlelaw12_awake.f k).bind fun t323 => (some t323)) else (some false))))))
theorem treadlelaw12_LexAlls.mono : ∀ a0 k, LeO (treadlelaw12_LexAlls.f k a0) (treadlelaw12_LexAlls.f (k + 1) a0) := by
  intro a0 k
  unfold treadlelaw12_LexAlls.f
  repeat' first
      | (with_reducible exact lex_All.mono _ _)
      | (with_reducible exact treadlelaw12_awake.mono _)
      | (with_reducible exact treadleref12_All.mono _ _)
      | (with_reducible exact treadleref12_Same.mono _ _ _)
      | (with_reducible exact LeO.refl _)
      | (with_reducible exact LeO.none _)
      | (with_reducible refine LeO.ite ?_ ?_)
      | (with_reducible refine LeO.bind ?_ (fun _ => ?_))
      | exact lex_All.mono _ _
      | exact treadlelaw12_awake.mono _
      | exact treadleref12_All.mono _ _
      | exact treadleref12_Same.mono _ _ _
      | exact LeO.none _
      | refine LeO.ite ?_ ?_
      | refine LeO.bind ?_ (fun _ => ?_)

/-! ### treadlelaw12_LexOwn: function 9 -/
mutual
def treadlelaw12_LexOwn.l0 : Nat → ByteArray → List (S24) → Int → Option (Bool)
  | 0, _, _, _ => none
  | k + 1, x0, x3, x5 => if x5 < 2 then ((lex_All.f k x0).bind fun bt332 => ((treadleref12_Same.f k bt332.1 x3).bind fun t338 => (if t338 = true then (treadlelaw12_LexOwn.l1 k x0 x3 x5 bt332.1 0) else (some false)))) else ((treadlelaw12_awake.f k).bind fun t331 => (some t331))
def treadlelaw12_LexOwn.l1 : Nat → ByteArray → List (S24) → Int → List (S24) → Int → Option (Bool)
  | 0, _, _, _, _, _ => none
  | k + 1, x0, x3, x5, x6, x8 => if x8 < (x6.length : Int) then (if 0 ≤ x8 then (treadlelaw12_LexOwn.l1 k x0 x3 x5 (x6.set (x8 : Int).toNat (⟨77, (rd_T24 x6 x8).f1, (rd_T24 x6 x8).f2⟩ : S24)) (wrap64 (x8 + 1))) else (none)) else ((some (([(⟨0, 0, 0⟩ : S24), (⟨0, 0, 0⟩ : S24), (⟨0, 0, 0⟩ : S24)] : List (S24)) : List (S24))).bind fun y340 => (if x6.length + y340.length < 5864062014805 then (if ((x6 ++ y340).length : Int) = (wrap64 ((x3.length : Int) + 3)) then (treadlelaw12_LexOwn.l0 k x0 x3 (wrap64 (x5 + 1))) else (some false)) else (none)))
end
def treadlelaw12_LexOwn.f (k : Nat) (a0 : ByteArray) : Option (Bool) := (treadleref12_All.f k a0).bind fun bt324 => (if (!(bt324.2.1 == 0) || (!(bt324.2.2 == 0))) = true then ((treadlelaw12_awake.f k).bind fun t330 => (some t330)) else (treadlelaw12_LexOwn.l0 k a0 bt324.1 0))
theorem treadlelaw12_LexOwn.mono_l : ∀ k, (∀ y0 y1 y2, LeO (treadlelaw12_LexOwn.l0 k y0 y1 y2) (treadlelaw12_LexOwn.l0 (k + 1) y0 y1 y2)) ∧ (∀ y0 y1 y2 y3 y4, LeO (treadlelaw12_LexOwn.l1 k y0 y1 y2 y3 y4) (treadlelaw12_LexOwn.l1 (k + 1) y0 y1 y2 y3 y4))
  | 0 => ⟨fun _ _ _ r h => by simp [treadlelaw12_LexOwn.l0] at h, fun _ _ _ _ _ r h => by simp [treadlelaw12_LexOwn.l1] at h⟩
  | k + 1 => by
    obtain ⟨ih0, ih1⟩ := treadlelaw12_LexOwn.mono_l k
    refine ⟨?_, ?_⟩
    · intro y0 y1 y2
      unfold treadlelaw12_LexOwn.l0
      repeat' first
      | (with_reducible exact ih0 _ _ _)
      | (with_reducible exact ih1 _ _ _ _ _)
      | (with_reducible exact lex_All.mono _ _)
      | (with_reducible exact treadlelaw12_awake.mono _)
      | (with_reducible exact treadleref12_All.mono _ _)
      | (with_reducible exact treadleref12_Same.mono _ _ _)
      | (with_reducible exact LeO.refl _)
      | (with_reducible exact LeO.none _)
      | (with_reducible refine LeO.ite ?_ ?_)
      | (with_reducible refine LeO.bind ?_ (fun _ => ?_))
      | exact ih0 _ _ _
      | exact ih1 _ _ _ _ _
      | exact lex_All.mono _ _
      | exact treadlelaw12_awake.mono _
      | exact treadleref12_All.mono _ _
      | exact treadleref12_Same.mono _ _ _
      | exact LeO.none _
      | refine LeO.ite ?_ ?_
      | refine LeO.bind ?_ (fun _ => ?_)
    · intro y0 y1 y2 y3 y4
      unfold treadlelaw12_LexOwn.l1
      repeat' first
      | (with_reducible exact ih0 _ _ _)
      | (with_reducible exact ih1 _ _ _ _ _)
      | (with_reducible exact lex_All.mono _ _)
      | (with_reducible exact treadlelaw12_awake.mono _)
      | (with_reducible exact treadleref12_All.mono _ _)
      | (with_reducible exact treadleref12_Same.mono _ _ _)
      | (with_reducible exact LeO.refl _)
      | (with_reducible exact LeO.none _)
      | (with_reducible refine LeO.ite ?_ ?_)
      | (with_reducible refine LeO.bind ?_ (fun _ => ?_))
      | exact ih0 _ _ _
      | exact ih1 _ _ _ _ _
      | exact lex_All.mono _ _
      | exact treadlelaw12_awake.mono _
      | exact treadleref12_All.mono _ _
      | exact treadleref12_Same.mono _ _ _
      | exact LeO.none _
      | refine LeO.ite ?_ ?_
      | refine LeO.bind ?_ (fun _ => ?_)
theorem treadlelaw12_LexOwn.mono : ∀ a0 k, LeO (treadlelaw12_LexOwn.f k a0) (treadlelaw12_LexOwn.f (k + 1) a0) := by
  intro a0 k
  obtain ⟨ih0, ih1⟩ := treadlelaw12_LexOwn.mono_l k
  unfold treadlelaw12_LexOwn.f
  repeat' first
      | (with_reducible exact ih0 _ _ _)
      | (with_reducible exact ih1 _ _ _ _ _)
      | (with_reducible exact lex_All.mono _ _)
      | (with_reducible exact treadlelaw12_awake.mono _)
      | (with_reducible exact treadleref12_All.mono _ _)
      | (with_reducible exact treadleref12_Same.mono _ _ _)
      | (with_reducible exact LeO.refl _)
      | (with_reducible exact LeO.none _)
      | (with_reducible refine LeO.ite ?_ ?_)
      | (with_reducible refine LeO.bind ?_ (fun _ => ?_))
      | exact ih0 _ _ _
      | exact ih1 _ _ _ _ _
      | exact lex_All.mono _ _
      | exact treadlelaw12_awake.mono _
      | exact treadleref12_All.mono _ _
      | exact treadleref12_Same.mono _ _ _
      | exact LeO.none _
      | refine LeO.ite ?_ ?_
      | refine LeO.bind ?_ (fun _ => ?_)

/-! ### lex_Number: function 22 -/
def lex_Number.f (k : Nat) (a0 : ByteArray) : Option (Int × Int) := (lex_just.f k a0 2).bind fun t346 => (if t346 = true then ((lex_whole.f a0).bind fun bt347 => (some (bt347.1, 0))) else (some (0, 121)))
theorem lex_Number.mono : ∀ a0 k, LeO (lex_Number.f k a0) (lex_Number.f (k + 1) a0) := by
  intro a0 k
  unfold lex_Number.f
  repeat' first
      | (with_reducible exact lex_just.mono _ _ _)
      | (with_reducible exact LeO.refl _)
      | (with_reducible exact LeO.none _)
      | (with_reducible refine LeO.ite ?_ ?_)
      | (with_reducible refine LeO.bind ?_ (fun _ => ?_))
      | exact lex_just.mono _ _ _
      | exact LeO.none _
      | refine LeO.ite ?_ ?_
      | refine LeO.bind ?_ (fun _ => ?_)

/-! ### lex_Text: function 24 -/
def lex_Text.f (k : Nat) (a0 : ByteArray) : Option (ByteArray × Int) := (lex_quoted.f k a0).bind fun bt349 => (if bt349.2 = 0 then (some ((⟨#[]⟩ : ByteArray), 122)) else (if bt349.2 = (a0.size : Int) then (some (bt349.1, 0)) else (some ((⟨#[]⟩ : ByteArray), 122))))
theorem lex_Text.mono : ∀ a0 k, LeO (lex_Text.f k a0) (lex_Text.f (k + 1) a0) := by
  intro a0 k
  unfold lex_Text.f
  repeat' first
      | (with_reducible exact lex_quoted.mono _ _)
      | (with_reducible exact LeO.refl _)
      | (with_reducible exact LeO.none _)
      | (with_reducible refine LeO.ite ?_ ?_)
      | (with_reducible refine LeO.bind ?_ (fun _ => ?_))
      | exact lex_quoted.mono _ _
      | exact LeO.none _
      | refine LeO.ite ?_ ?_
      | refine LeO.bind ?_ (fun _ => ?_)

/-! ### treadleref12_Text: function 25 -/
def treadleref12_Text.j0 : Nat → ByteArray → Bool → Option (ByteArray × Int)
  | 0, _, _ => none
  | k + 1, x0, x13 => if x13 = true then (some ((⟨#[]⟩ : ByteArray), 122)) else ((treadleref12_quoted.f k x0 0).bind fun bt351 => (if bt351.2 = (x0.size : Int) then (some (bt351.1, 0)) else (some ((⟨#[]⟩ : ByteArray), 122))))
def treadleref12_Text.f (k : Nat) (a0 : ByteArray) : Option (ByteArray × Int) := if (a0.size : Int) = 0 then (treadleref12_Text.j0 k a0 true) else (if 0 < (a0.size : Int) then (treadleref12_Text.j0 k a0 ((bt a0 0) != 34)) else (none))
theorem treadleref12_Text.mono_l : ∀ k, (∀ y0 y1, LeO (treadleref12_Text.j0 k y0 y1) (treadleref12_Text.j0 (k + 1) y0 y1))
  | 0 => fun _ _ r h => by simp [treadleref12_Text.j0] at h
  | k + 1 => by
    have ih0 := treadleref12_Text.mono_l k
    · intro y0 y1
      unfold treadleref12_Text.j0
      repeat' first
      | (with_reducible exact ih0 _ _)
      | (with_reducible exact treadleref12_quoted.mono _ _ _)
      | (with_reducible exact LeO.refl _)
      | (with_reducible exact LeO.none _)
      | (with_reducible refine LeO.ite ?_ ?_)
      | (with_reducible refine LeO.bind ?_ (fun _ => ?_))
      | exact ih0 _ _
      | exact treadleref12_quoted.mono _ _ _
      | exact LeO.none _
      | refine LeO.ite ?_ ?_
      | refine LeO.bind ?_ (fun _ => ?_)
theorem treadleref12_Text.mono : ∀ a0 k, LeO (treadleref12_Text.f k a0) (treadleref12_Text.f (k + 1) a0) := by
  intro a0 k
  have ih0 := treadleref12_Text.mono_l k
  unfold treadleref12_Text.f
  repeat' first
      | (with_reducible exact ih0 _ _)
      | (with_reducible exact treadleref12_quoted.mono _ _ _)
      | (with_reducible exact LeO.refl _)
      | (with_reducible exact LeO.none _)
      | (with_reducible refine LeO.ite ?_ ?_)
      | (with_reducible refine LeO.bind ?_ (fun _ => ?_))
      | exact ih0 _ _
      | exact treadleref12_quoted.mono _ _ _
      | exact LeO.none _
      | refine LeO.ite ?_ ?_
      | refine LeO.bind ?_ (fun _ => ?_)

/-! ### treadleref12_name: function 43 -/
mutual
def treadleref12_name.j0 : Nat → ByteArray → Bool → Option (Bool)
  | 0, _, _ => none
  | k + 1, x0, x17 => if x17 = true then (some false) else (treadleref12_name.l0 k x0 0)
def treadleref12_name.l0 : Nat → ByteArray → Int → Option (Bool)
  | 0, _, _ => none
  | k + 1, x0, x3 => if x3 < (x0.size : Int) then (if 0 ≤ x3 then ((treadleref12_Letter.f (bt x0 x3)).bind fun t354 => (if t354 = true then (treadleref12_name.l0 k x0 (wrap64 (x3 + 1))) else ((treadleref12_Digit.f (bt x0 x3)).bind fun t355 => (if t355 = true then (treadleref12_name.l0 k x0 (wrap64 (x3 + 1))) else (some false))))) else (none)) else (some true)
end
def treadleref12_name.f (k : Nat) (a0 : ByteArray) : Option (Bool) := if (a0.size : Int) = 0 then (treadleref12_name.j0 k a0 true) else (if (a0.size : Int) > 32 then (treadleref12_name.j0 k a0 true) else (if 0 < (a0.size : Int) then ((treadleref12_Letter.f (bt a0 0)).bind fun t353 => (treadleref12_name.j0 k a0 (!t353))) else (none)))
theorem treadleref12_name.mono_l : ∀ k, (∀ y0 y1, LeO (treadleref12_name.j0 k y0 y1) (treadleref12_name.j0 (k + 1) y0 y1)) ∧ (∀ y0 y1, LeO (treadleref12_name.l0 k y0 y1) (treadleref12_name.l0 (k + 1) y0 y1))
  | 0 => ⟨fun _ _ r h => by simp [treadleref12_name.j0] at h, fun _ _ r h => by simp [treadleref12_name.l0] at h⟩
  | k + 1 => by
    obtain ⟨ih0, ih1⟩ := treadleref12_name.mono_l k
    refine ⟨?_, ?_⟩
    · intro y0 y1
      unfold treadleref12_name.j0
      repeat' first
      | (with_reducible exact ih0 _ _)
      | (with_reducible exact ih1 _ _)
      | (with_reducible exact LeO.refl _)
      | (with_reducible exact LeO.none _)
      | (with_reducible refine LeO.ite ?_ ?_)
      | (with_reducible refine LeO.bind ?_ (fun _ => ?_))
      | exact ih0 _ _
      | exact ih1 _ _
      | exact LeO.none _
      | refine LeO.ite ?_ ?_
      | refine LeO.bind ?_ (fun _ => ?_)
    · intro y0 y1
      unfold treadleref12_name.l0
      repeat' first
      | (with_reducible exact ih0 _ _)
      | (with_reducible exact ih1 _ _)
      | (with_reducible exact LeO.refl _)
      | (with_reducible exact LeO.none _)
      | (with_reducible refine LeO.ite ?_ ?_)
      | (with_reducible refine LeO.bind ?_ (fun _ => ?_))
      | exact ih0 _ _
      | exact ih1 _ _
      | exact LeO.none _
      | refine LeO.ite ?_ ?_
      | refine LeO.bind ?_ (fun _ => ?_)
theorem treadleref12_name.mono : ∀ a0 k, LeO (treadleref12_name.f k a0) (treadleref12_name.f (k + 1) a0) := by
  intro a0 k
  obtain ⟨ih0, ih1⟩ := treadleref12_name.mono_l k
  unfold treadleref12_name.f
  repeat' first
      | (with_reducible exact ih0 _ _)
      | (with_reducible exact ih1 _ _)
      | (with_reducible exact LeO.refl _)
      | (with_reducible exact LeO.none _)
      | (with_reducible refine LeO.ite ?_ ?_)
      | (with_reducible refine LeO.bind ?_ (fun _ => ?_))
      | exact ih0 _ _
      | exact ih1 _ _
      | exact LeO.none _
      | refine LeO.ite ?_ ?_
      | refine LeO.bind ?_ (fun _ => ?_)

/-! ### treadleref12_Word: function 27 -/
def treadleref12_Word.f (k : Nat) (a0 : ByteArray) : Option (Bool) := (treadleref12_name.f k a0).bind fun t356 => (if t356 = true then ((treadleref12_Key.f k a0).bind fun t357 => (some (!t357))) else (some false))
theorem treadleref12_Word.mono : ∀ a0 k, LeO (treadleref12_Word.f k a0) (treadleref12_Word.f (k + 1) a0) := by
  intro a0 k
  unfold treadleref12_Word.f
  repeat' first
      | (with_reducible exact treadleref12_Key.mono _ _)
      | (with_reducible exact treadleref12_name.mono _ _)
      | (with_reducible exact LeO.refl _)
      | (with_reducible exact LeO.none _)
      | (with_reducible refine LeO.ite ?_ ?_)
      | (with_reducible refine LeO.bind ?_ (fun _ => ?_))
      | exact treadleref12_Key.mono _ _
      | exact treadleref12_name.mono _ _
      | exact LeO.none _
      | refine LeO.ite ?_ ?_
      | refine LeO.bind ?_ (fun _ => ?_)

/-! ### treadlelaw12_LexReads: function 10 -/
def treadlelaw12_LexReads.f (k : Nat) (a0 : ByteArray) : Option (Bool) := (lex_Number.f k a0).bind fun bt358 => ((treadleref12_Number.f k a0).bind fun bt360 => ((lex_Text.f k a0).bind fun bt362 => ((treadleref12_Text.f k a0).bind fun bt364 => (if bt358.1 = bt360.1 then (if bt358.2 = bt360.2 then (if bt362.1.toList = bt364.1.toList then (if bt362.2 = bt364.2 then ((lex_Word.f k a0).bind fun t366 => ((treadleref12_Word.f k a0).bind fun t367 => (if (t366 == t367) = true then ((lex_Key.f a0).bind fun t368 => ((treadleref12_Key.f k a0).bind fun t369 => (if (t368 == t369) = true then ((treadlelaw12_awake.f k).bind fun t370 => (some t370)) else (some false)))) else (some false)))) else (some false)) else (some false)) else (some false)) else (some false)))))
theorem treadlelaw12_LexReads.mono : ∀ a0 k, LeO (treadlelaw12_LexReads.f k a0) (treadlelaw12_LexReads.f (k + 1) a0) := by
  intro a0 k
  unfold treadlelaw12_LexReads.f
  repeat' first
      | (with_reducible exact lex_Number.mono _ _)
      | (with_reducible exact lex_Text.mono _ _)
      | (with_reducible exact lex_Word.mono _ _)
      | (with_reducible exact treadlelaw12_awake.mono _)
      | (with_reducible exact treadleref12_Key.mono _ _)
      | (with_reducible exact treadleref12_Number.mono _ _)
      | (with_reducible exact treadleref12_Text.mono _ _)
      | (with_reducible exact treadleref12_Word.mono _ _)
      | (with_reducible exact LeO.refl _)
      | (with_reducible exact LeO.none _)
      | (with_reducible refine LeO.ite ?_ ?_)
      | (with_reducible refine LeO.bind ?_ (fun _ => ?_))
      | exact lex_Number.mono _ _
      | exact lex_Text.mono _ _
      | exact lex_Word.mono _ _
      | exact treadlelaw12_awake.mono _
      | exact treadleref12_Key.mono _ _
      | exact treadleref12_Number.mono _ _
      | exact treadleref12_Text.mono _ _
      | exact treadleref12_Word.mono _ _
      | exact LeO.none _
      | refine LeO.ite ?_ ?_
      | refine LeO.bind ?_ (fun _ => ?_)

/-! ### lex_Quote: function 30 -/
mutual
def lex_Quote.l0 : Nat → ByteArray → List Int → Int → Int → Option (ByteArray × Int)
  | 0, _, _, _, _ => none
  | k + 1, x0, x4, x12, x13 => if x13 < x12 then (if 0 ≤ x13 then (if x13 < (x0.size : Int) then (if (bt x0 x13) = 10 then ((some (([92, 110] : List Int) : List Int)).bind fun y377 => (if x4.length + y377.length < 140737488355328 then (lex_Quote.l0 k x0 (x4 ++ y377) x12 (wrap64 (x13 + 1))) else (none))) else (if (bt x0 x13) = 9 then ((some (([92, 116] : List Int) : List Int)).bind fun y383 => (if x4.length + y383.length < 140737488355328 then (lex_Quote.l0 k x0 (x4 ++ y383) x12 (wrap64 (x13 + 1))) else (none))) else (if (bt x0 x13) = 34 then (lex_Quote.j1 k x0 x4 (bt x0 x13) x12 x13 true) else (lex_Quote.j1 k x0 x4 (bt x0 x13) x12 x13 ((bt x0 x13) == 92))))) else (none)) else (none)) else (if x4.length < 140737488355328 then (some (strOfNums (x4 ++ [34]), 0)) else (none))
def lex_Quote.j1 : Nat → ByteArray → List Int → Int → Int → Int → Bool → Option (ByteArray × Int)
  | 0, _, _, _, _, _, _ => none
  | k + 1, x0, x4, x6, x12, x13, x35 => if x35 = true then ((some (([92, x6] : List Int) : List Int)).bind fun y389 => (if x4.length + y389.length < 140737488355328 then (lex_Quote.l0 k x0 (x4 ++ y389) x12 (wrap64 (x13 + 1))) else (none))) else (if x6 < 32 then (if 0 ≤ (x6 / 16) then (if (x6 / 16) < 16 then (if 0 ≤ (Go.bits .and .u8 x6 15) then (if (Go.bits .and .u8 x6 15) < 16 then ((some (([92, 120, bt (⟨#[48, 49, 50, 51, 52, 53, 54, 55, 56, 57, 97, 98, 99, 100, 101, 102]⟩ : ByteArray) (x6 / 16), bt (⟨#[48, 49, 50, 51, 52, 53, 54, 55, 56, 57, 97, 98, 99, 100, 101, 102]⟩ : ByteArray) (Go.bits .and .u8 x6 15)] : List Int) : List Int)).bind fun y395 => (if x4.length + y395.length < 140737488355328 then (lex_Quote.l0 k x0 (x4 ++ y395) x12 (wrap64 (x13 + 1))) else (none))) else (none)) else (none)) else (none)) else (none)) else (if x6 > 126 then (if 0 ≤ (x6 / 16) then (if (x6 / 16) < 16 then (if 0 ≤ (Go.bits .and .u8 x6 15) then (if (Go.bits .and .u8 x6 15) < 16 then ((some (([92, 120, bt (⟨#[48, 49, 50, 51, 52, 53, 54, 55, 56, 57, 97, 98, 99, 100, 101, 102]⟩ : ByteArray) (x6 / 16), bt (⟨#[48, 49, 50, 51, 52, 53, 54, 55, 56, 57, 97, 98, 99, 100, 101, 102]⟩ : ByteArray) (Go.bits .and .u8 x6 15)] : List Int) : List Int)).bind fun y401 => (if x4.length + y401.length < 140737488355328 then (lex_Quote.l0 k x0 (x4 ++ y401) x12 (wrap64 (x13 + 1))) else (none))) else (none)) else (none)) else (none)) else (none)) else (if x4.length < 140737488355328 then (lex_Quote.l0 k x0 (x4 ++ [x6]) x12 (wrap64 (x13 + 1))) else (none))))
end
def lex_Quote.f (k : Nat) (a0 : ByteArray) : Option (ByteArray × Int) := if (a0.size : Int) > 4096 then (some ((⟨#[]⟩ : ByteArray), 3)) else (lex_Quote.l0 k a0 (([34] : List Int)) (a0.size : Int) 0)
theorem lex_Quote.mono_l : ∀ k, (∀ y0 y1 y2 y3, LeO (lex_Quote.l0 k y0 y1 y2 y3) (lex_Quote.l0 (k + 1) y0 y1 y2 y3)) ∧ (∀ y0 y1 y2 y3 y4 y5, LeO (lex_Quote.j1 k y0 y1 y2 y3 y4 y5) (lex_Quote.j1 (k + 1) y0 y1 y2 y3 y4 y5))
  | 0 => ⟨fun _ _ _ _ r h => by simp [lex_Quote.l0] at h, fun _ _ _ _ _ _ r h => by simp [lex_Quote.j1] at h⟩
  | k + 1 => by
    obtain ⟨ih0, ih1⟩ := lex_Quote.mono_l k
    refine ⟨?_, ?_⟩
    · intro y0 y1 y2 y3
      unfold lex_Quote.l0
      repeat' first
      | (with_reducible exact ih0 _ _ _ _)
      | (with_reducible exact ih1 _ _ _ _ _ _)
      | (with_reducible exact LeO.refl _)
      | (with_reducible exact LeO.none _)
      | (with_reducible refine LeO.ite ?_ ?_)
      | (with_reducible refine LeO.bind ?_ (fun _ => ?_))
      | exact ih0 _ _ _ _
      | exact ih1 _ _ _ _ _ _
      | exact LeO.none _
      | refine LeO.ite ?_ ?_
      | refine LeO.bind ?_ (fun _ => ?_)
    · intro y0 y1 y2 y3 y4 y5
      unfold lex_Quote.j1
      repeat' first
      | (with_reducible exact ih0 _ _ _ _)
      | (with_reducible exact ih1 _ _ _ _ _ _)
      | (with_reducible exact LeO.refl _)
      | (with_reducible exact LeO.none _)
      | (with_reducible refine LeO.ite ?_ ?_)
      | (with_reducible refine LeO.bind ?_ (fun _ => ?_))
      | exact ih0 _ _ _ _
      | exact ih1 _ _ _ _ _ _
      | exact LeO.none _
      | refine LeO.ite ?_ ?_
      | refine LeO.bind ?_ (fun _ => ?_)
theorem lex_Quote.mono : ∀ a0 k, LeO (lex_Quote.f k a0) (lex_Quote.f (k + 1) a0) := by
  intro a0 k
  obtain ⟨ih0, ih1⟩ := lex_Quote.mono_l k
  unfold lex_Quote.f
  repeat' first
      | (with_reducible exact ih0 _ _ _ _)
      | (with_reducible exact ih1 _ _ _ _ _ _)
      | (with_reducible exact LeO.refl _)
      | (with_reducible exact LeO.none _)
      | (with_reducible refine LeO.ite ?_ ?_)
      | (with_reducible refine LeO.bind ?_ (fun _ => ?_))
      | exact ih0 _ _ _ _
      | exact ih1 _ _ _ _ _ _
      | exact LeO.none _
      | refine LeO.ite ?_ ?_
      | refine LeO.bind ?_ (fun _ => ?_)

/-! ### treadleref12_Quote: function 31 -/
mutual
def treadleref12_Quote.l0 : Nat → ByteArray → ByteArray → List Int → Int → Option (ByteArray × Int)
  | 0, _, _, _, _ => none
  | k + 1, x0, x4, x5, x6 => if x6 < (x0.size : Int) then (if 0 ≤ x6 then (if (bt x0 x6) = 10 then ((some (([92, 110] : List Int) : List Int)).bind fun y416 => (if x5.length + y416.length < 140737488355328 then (treadleref12_Quote.l0 k x0 x4 (x5 ++ y416) (wrap64 (x6 + 1))) else (none))) else (if (bt x0 x6) = 9 then ((some (([92, 116] : List Int) : List Int)).bind fun y422 => (if x5.length + y422.length < 140737488355328 then (treadleref12_Quote.l0 k x0 x4 (x5 ++ y422) (wrap64 (x6 + 1))) else (none))) else (if (bt x0 x6) = 34 then (treadleref12_Quote.j1 k x0 x4 x5 x6 (bt x0 x6) true) else (treadleref12_Quote.j1 k x0 x4 x5 x6 (bt x0 x6) ((bt x0 x6) == 92))))) else (none)) else (if x5.length < 140737488355328 then (some (strOfNums (x5 ++ [34]), 0)) else (none))
def treadleref12_Quote.j1 : Nat → ByteArray → ByteArray → List Int → Int → Int → Bool → Option (ByteArray × Int)
  | 0, _, _, _, _, _, _ => none
  | k + 1, x0, x4, x5, x6, x7, x44 => if x44 = true then ((some (([92, x7] : List Int) : List Int)).bind fun y428 => (if x5.length + y428.length < 140737488355328 then (treadleref12_Quote.l0 k x0 x4 (x5 ++ y428) (wrap64 (x6 + 1))) else (none))) else (if x7 ≥ 32 then (if x7 ≤ 126 then (if x5.length < 140737488355328 then (treadleref12_Quote.l0 k x0 x4 (x5 ++ [x7]) (wrap64 (x6 + 1))) else (none)) else (if 0 ≤ (x7 / 16) then (if (x7 / 16) < (x4.size : Int) then (if 0 ≤ (Go.bits .and .u8 x7 15) then (if (Go.bits .and .u8 x7 15) < (x4.size : Int) then ((some (([92, 120, bt x4 (x7 / 16), bt x4 (Go.bits .and .u8 x7 15)] : List Int) : List Int)).bind fun y437 => (if x5.length + y437.length < 140737488355328 then (treadleref12_Quote.l0 k x0 x4 (x5 ++ y437) (wrap64 (x6 + 1))) else (none))) else (none)) else (none)) else (none)) else (none))) else (if 0 ≤ (x7 / 16) then (if (x7 / 16) < (x4.size : Int) then (if 0 ≤ (Go.bits .and .u8 x7 15) then (if (Go.bits .and .u8 x7 15) < (x4.size : Int) then ((some (([92, 120, bt x4 (x7 / 16), bt x4 (Go.bits .and .u8 x7 15)] : List Int) : List Int)).bind fun y443 => (if x5.length + y443.length < 140737488355328 then (treadleref12_Quote.l0 k x0 x4 (x5 ++ y443) (wrap64 (x6 + 1))) else (none))) else (none)) else (none)) else (none)) else (none)))
end
def treadleref12_Quote.f (k : Nat) (a0 : ByteArray) : Option (ByteArray × Int) := if (a0.size : Int) > 4096 then (some ((⟨#[]⟩ : ByteArray), 3)) else (treadleref12_Quote.l0 k a0 (⟨#[48, 49, 50, 51, 52, 53, 54, 55, 56, 57, 97, 98, 99, 100, 101, 102]⟩ : ByteArray) (([34] : List Int)) 0)
theorem treadleref12_Quote.mono_l : ∀ k, (∀ y0 y1 y2 y3, LeO (treadleref12_Quote.l0 k y0 y1 y2 y3) (treadleref12_Quote.l0 (k + 1) y0 y1 y2 y3)) ∧ (∀ y0 y1 y2 y3 y4 y5, LeO (treadleref12_Quote.j1 k y0 y1 y2 y3 y4 y5) (treadleref12_Quote.j1 (k + 1) y0 y1 y2 y3 y4 y5))
  | 0 => ⟨fun _ _ _ _ r h => by simp [treadleref12_Quote.l0] at h, fun _ _ _ _ _ _ r h => by simp [treadleref12_Quote.j1] at h⟩
  | k + 1 => by
    obtain ⟨ih0, ih1⟩ := treadleref12_Quote.mono_l k
    refine ⟨?_, ?_⟩
    · intro y0 y1 y2 y3
      unfold treadleref12_Quote.l0
      repeat' first
      | (with_reducible exact ih0 _ _ _ _)
      | (with_reducible exact ih1 _ _ _ _ _ _)
      | (with_reducible exact LeO.refl _)
      | (with_reducible exact LeO.none _)
      | (with_reducible refine LeO.ite ?_ ?_)
      | (with_reducible refine LeO.bind ?_ (fun _ => ?_))
      | exact ih0 _ _ _ _
      | exact ih1 _ _ _ _ _ _
      | exact LeO.none _
      | refine LeO.ite ?_ ?_
      | refine LeO.bind ?_ (fun _ => ?_)
    · intro y0 y1 y2 y3 y4 y5
      unfold treadleref12_Quote.j1
      repeat' first
      | (with_reducible exact ih0 _ _ _ _)
      | (with_reducible exact ih1 _ _ _ _ _ _)
      | (with_reducible exact LeO.refl _)
      | (with_reducible exact LeO.none _)
      | (with_reducible refine LeO.ite ?_ ?_)
      | (with_reducible refine LeO.bind ?_ (fun _ => ?_))
      | exact ih0 _ _ _ _
      | exact ih1 _ _ _ _ _ _
      | exact LeO.none _
      | refine LeO.ite ?_ ?_
      | refine LeO.bind ?_ (fun _ => ?_)
theorem treadleref12_Quote.mono : ∀ a0 k, LeO (treadleref12_Quote.f k a0) (treadleref12_Quote.f (k + 1) a0) := by
  intro a0 k
  obtain ⟨ih0, ih1⟩ := treadleref12_Quote.mono_l k
  unfold treadleref12_Quote.f
  repeat' first
      | (with_reducible exact ih0 _ _ _ _)
      | (with_reducible exact ih1 _ _ _ _ _ _)
      | (with_reducible exact LeO.refl _)
      | (with_reducible exact LeO.none _)
      | (with_reducible refine LeO.ite ?_ ?_)
      | (with_reducible refine LeO.bind ?_ (fun _ => ?_))
      | exact ih0 _ _ _ _
      | exact ih1 _ _ _ _ _ _
      | exact LeO.none _
      | refine LeO.ite ?_ ?_
      | refine LeO.bind ?_ (fun _ => ?_)

/-! ### treadlelaw12_LexQuotes: function 11 -/
def treadlelaw12_LexQuotes.f (k : Nat) (a0 : ByteArray) : Option (Bool) := (lex_Quote.f k a0).bind fun bt449 => ((treadleref12_Quote.f k a0).bind fun bt451 => (if bt449.1.toList = bt451.1.toList then (if bt449.2 = bt451.2 then ((treadlelaw12_awake.f k).bind fun t453 => (some t453)) else (some false)) else (some false)))
theorem treadlelaw12_LexQuotes.mono : ∀ a0 k, LeO (treadlelaw12_LexQuotes.f k a0) (treadlelaw12_LexQuotes.f (k + 1) a0) := by
  intro a0 k
  unfold treadlelaw12_LexQuotes.f
  repeat' first
      | (with_reducible exact lex_Quote.mono _ _)
      | (with_reducible exact treadlelaw12_awake.mono _)
      | (with_reducible exact treadleref12_Quote.mono _ _)
      | (with_reducible exact LeO.refl _)
      | (with_reducible exact LeO.none _)
      | (with_reducible refine LeO.ite ?_ ?_)
      | (with_reducible refine LeO.bind ?_ (fun _ => ?_))
      | exact lex_Quote.mono _ _
      | exact treadlelaw12_awake.mono _
      | exact treadleref12_Quote.mono _ _
      | exact LeO.none _
      | refine LeO.ite ?_ ?_
      | refine LeO.bind ?_ (fun _ => ?_)

/-! ### treadlelaw12_LexBack: function 12 -/
def treadlelaw12_LexBack.j0 : Nat → ByteArray → Bool → Option (Bool)
  | 0, _, _ => none
  | k + 1, x1, x43 => if x43 = true then (some false) else ((lex_Text.f k x1).bind fun bt459 => (if bt459.2 = 0 then ((lex_Quote.f k bt459.1).bind fun bt461 => ((lex_Text.f k bt461.1).bind fun bt463 => (if bt461.2 = 0 then (if bt463.2 = 0 then (if bt463.1.toList = bt459.1.toList then (if (bt461.1.size : Int) ≤ (x1.size : Int) then ((treadlelaw12_awake.f k).bind fun t465 => (some t465)) else (some false)) else (some false)) else (some false)) else (some false)))) else (if bt459.2 = 122 then ((treadlelaw12_awake.f k).bind fun t466 => (some t466)) else (some false))))
def treadlelaw12_LexBack.f (k : Nat) (a0 : ByteArray) (a1 : ByteArray) : Option (Bool) := (lex_Quote.f k a0).bind fun bt454 => (if bt454.2 = 0 then ((lex_Text.f k bt454.1).bind fun bt457 => (if bt457.2 = 0 then (treadlelaw12_LexBack.j0 k a1 (bt457.1.toList != a0.toList)) else (treadlelaw12_LexBack.j0 k a1 true))) else (if bt454.2 = 3 then (if (a0.size : Int) > 4096 then ((treadlelaw12_awake.f k).bind fun t456 => (some t456)) else (some false)) else (some false)))
theorem treadlelaw12_LexBack.mono_l : ∀ k, (∀ y0 y1, LeO (treadlelaw12_LexBack.j0 k y0 y1) (treadlelaw12_LexBack.j0 (k + 1) y0 y1))
  | 0 => fun _ _ r h => by simp [treadlelaw12_LexBack.j0] at h
  | k + 1 => by
    have ih0 := treadlelaw12_LexBack.mono_l k
    · intro y0 y1
      unfold treadlelaw12_LexBack.j0
      repeat' first
      | (with_reducible exact ih0 _ _)
      | (with_reducible exact lex_Quote.mono _ _)
      | (with_reducible exact lex_Text.mono _ _)
      | (with_reducible exact treadlelaw12_awake.mono _)
      | (with_reducible exact LeO.refl _)
      | (with_reducible exact LeO.none _)
      | (with_reducible refine LeO.ite ?_ ?_)
      | (with_reducible refine LeO.bind ?_ (fun _ => ?_))
      | exact ih0 _ _
      | exact lex_Quote.mono _ _
      | exact lex_Text.mono _ _
      | exact treadlelaw12_awake.mono _
      | exact LeO.none _
      | refine LeO.ite ?_ ?_
      | refine LeO.bind ?_ (fun _ => ?_)
theorem treadlelaw12_LexBack.mono : ∀ a0 a1 k, LeO (treadlelaw12_LexBack.f k a0 a1) (treadlelaw12_LexBack.f (k + 1) a0 a1) := by
  intro a0 a1 k
  have ih0 := treadlelaw12_LexBack.mono_l k
  unfold treadlelaw12_LexBack.f
  repeat' first
      | (with_reducible exact ih0 _ _)
      | (with_reducible exact lex_Quote.mono _ _)
      | (with_reducible exact lex_Text.mono _ _)
      | (with_reducible exact treadlelaw12_awake.mono _)
      | (with_reducible exact LeO.refl _)
      | (with_reducible exact LeO.none _)
      | (with_reducible refine LeO.ite ?_ ?_)
      | (with_reducible refine LeO.bind ?_ (fun _ => ?_))
      | exact ih0 _ _
      | exact lex_Quote.mono _ _
      | exact lex_Text.mono _ _
      | exact treadlelaw12_awake.mono _
      | exact LeO.none _
      | refine LeO.ite ?_ ?_
      | refine LeO.bind ?_ (fun _ => ?_)

/-! ### strings_Count: function 46 -/
/-- at a substr of one byte alone -/
def strings_Count.f (a0 : ByteArray) (a1 : ByteArray) : Option (Int) :=
  match a1.data.toList with
  | [c] => some (Lib.countByte a0.data.toList c)
  | _ => none

/-! ### bytealg_LastIndexByteString: function 65 -/
def bytealg_LastIndexByteString.l0 : Nat → ByteArray → Int → Int → Option (Int)
  | 0, _, _, _ => none
  | k + 1, x0, x1, x5 => if x5 ≥ 0 then (if 0 ≤ x5 then (if x5 < (x0.size : Int) then (if (bt x0 x5) = x1 then (some x5) else (bytealg_LastIndexByteString.l0 k x0 x1 (wrap64 (x5 - 1)))) else (none)) else (none)) else (some (-1))
def bytealg_LastIndexByteString.f (k : Nat) (a0 : ByteArray) (a1 : Int) : Option (Int) := bytealg_LastIndexByteString.l0 k a0 a1 (wrap64 ((a0.size : Int) - 1))
theorem bytealg_LastIndexByteString.mono_l : ∀ k, (∀ y0 y1 y2, LeO (bytealg_LastIndexByteString.l0 k y0 y1 y2) (bytealg_LastIndexByteString.l0 (k + 1) y0 y1 y2))
  | 0 => fun _ _ _ r h => by simp [bytealg_LastIndexByteString.l0] at h
  | k + 1 => by
    have ih0 := bytealg_LastIndexByteString.mono_l k
    · intro y0 y1 y2
      unfold bytealg_LastIndexByteString.l0
      repeat' first
      | (with_reducible exact ih0 _ _ _)
      | (with_reducible exact LeO.refl _)
      | (with_reducible exact LeO.none _)
      | (with_reducible refine LeO.ite ?_ ?_)
      | (with_reducible refine LeO.bind ?_ (fun _ => ?_))
      | exact ih0 _ _ _
      | exact LeO.none _
      | refine LeO.ite ?_ ?_
      | refine LeO.bind ?_ (fun _ => ?_)
theorem bytealg_LastIndexByteString.mono : ∀ a0 a1 k, LeO (bytealg_LastIndexByteString.f k a0 a1) (bytealg_LastIndexByteString.f (k + 1) a0 a1) := by
  intro a0 a1 k
  have ih0 := bytealg_LastIndexByteString.mono_l k
  unfold bytealg_LastIndexByteString.f
  repeat' first
      | (with_reducible exact ih0 _ _ _)
      | (with_reducible exact LeO.refl _)
      | (with_reducible exact LeO.none _)
      | (with_reducible refine LeO.ite ?_ ?_)
      | (with_reducible refine LeO.bind ?_ (fun _ => ?_))
      | exact ih0 _ _ _
      | exact LeO.none _
      | refine LeO.ite ?_ ?_
      | refine LeO.bind ?_ (fun _ => ?_)

/-! ### strings_LastIndexByte: function 47 -/
def strings_LastIndexByte.f (k : Nat) (a0 : ByteArray) (a1 : Int) : Option (Int) := (bytealg_LastIndexByteString.f k a0 a1).bind fun t467 => (some t467)
theorem strings_LastIndexByte.mono : ∀ a0 a1 k, LeO (strings_LastIndexByte.f k a0 a1) (strings_LastIndexByte.f (k + 1) a0 a1) := by
  intro a0 a1 k
  unfold strings_LastIndexByte.f
  repeat' first
      | (with_reducible exact bytealg_LastIndexByteString.mono _ _ _)
      | (with_reducible exact LeO.refl _)
      | (with_reducible exact LeO.none _)
      | (with_reducible refine LeO.ite ?_ ?_)
      | (with_reducible refine LeO.bind ?_ (fun _ => ?_))
      | exact bytealg_LastIndexByteString.mono _ _ _
      | exact LeO.none _
      | refine LeO.ite ?_ ?_
      | refine LeO.bind ?_ (fun _ => ?_)

/-! ### lex_Place: function 32 -/
def lex_Place.j0 : Nat → ByteArray → Int → Bool → Option (Int × Int × Int)
  | 0, _, _, _ => none
  | k + 1, x0, x1, x12 => if x12 = true then (some (0, 0, 1)) else (if 0 ≤ x1 then (if x1 ≤ (x0.size : Int) then ((strings_Count.f (x0.extract 0 (x1 : Int).toNat) (⟨#[10]⟩ : ByteArray)).bind fun t468 => ((strings_LastIndexByte.f k (x0.extract 0 (x1 : Int).toNat) 10).bind fun t469 => (some (wrap64 (1 + t468), wrap64 (x1 - t469), 0)))) else (none)) else (none))
def lex_Place.f (k : Nat) (a0 : ByteArray) (a1 : Int) : Option (Int × Int × Int) := if (a0.size : Int) > 65536 then (some (0, 0, 3)) else (if a1 < 0 then (lex_Place.j0 k a0 a1 true) else (lex_Place.j0 k a0 a1 (decide (a1 > (a0.size : Int)))))
theorem lex_Place.mono_l : ∀ k, (∀ y0 y1 y2, LeO (lex_Place.j0 k y0 y1 y2) (lex_Place.j0 (k + 1) y0 y1 y2))
  | 0 => fun _ _ _ r h => by simp [lex_Place.j0] at h
  | k + 1 => by
    have ih0 := lex_Place.mono_l k
    · intro y0 y1 y2
      unfold lex_Place.j0
      repeat' first
      | (with_reducible exact ih0 _ _ _)
      | (with_reducible exact strings_LastIndexByte.mono _ _ _)
      | (with_reducible exact LeO.refl _)
      | (with_reducible exact LeO.none _)
      | (with_reducible refine LeO.ite ?_ ?_)
      | (with_reducible refine LeO.bind ?_ (fun _ => ?_))
      | exact ih0 _ _ _
      | exact strings_LastIndexByte.mono _ _ _
      | exact LeO.none _
      | refine LeO.ite ?_ ?_
      | refine LeO.bind ?_ (fun _ => ?_)
theorem lex_Place.mono : ∀ a0 a1 k, LeO (lex_Place.f k a0 a1) (lex_Place.f (k + 1) a0 a1) := by
  intro a0 a1 k
  have ih0 := lex_Place.mono_l k
  unfold lex_Place.f
  repeat' first
      | (with_reducible exact ih0 _ _ _)
      | (with_reducible exact strings_LastIndexByte.mono _ _ _)
      | (with_reducible exact LeO.refl _)
      | (with_reducible exact LeO.none _)
      | (with_reducible refine LeO.ite ?_ ?_)
      | (with_reducible refine LeO.bind ?_ (fun _ => ?_))
      | exact ih0 _ _ _
      | exact strings_LastIndexByte.mono _ _ _
      | exact LeO.none _
      | refine LeO.ite ?_ ?_
      | refine LeO.bind ?_ (fun _ => ?_)

/-! ### treadleref12_Place: function 33 -/
mutual
def treadleref12_Place.j0 : Nat → ByteArray → Int → Bool → Option (Int × Int × Int)
  | 0, _, _, _ => none
  | k + 1, x0, x1, x20 => if x20 = true then (some (0, 0, 1)) else (treadleref12_Place.l0 k x0 x1 1 1 0)
def treadleref12_Place.l0 : Nat → ByteArray → Int → Int → Int → Int → Option (Int × Int × Int)
  | 0, _, _, _, _, _ => none
  | k + 1, x0, x1, x7, x8, x9 => if x9 < x1 then (if 0 ≤ x9 then (if x9 < (x0.size : Int) then (if (bt x0 x9) = 10 then (treadleref12_Place.l0 k x0 x1 (wrap64 (x7 + 1)) 1 (wrap64 (x9 + 1))) else (treadleref12_Place.l0 k x0 x1 x7 (wrap64 (x8 + 1)) (wrap64 (x9 + 1)))) else (none)) else (none)) else (some (x7, x8, 0))
end
def treadleref12_Place.f (k : Nat) (a0 : ByteArray) (a1 : Int) : Option (Int × Int × Int) := if (a0.size : Int) > 65536 then (some (0, 0, 3)) else (if a1 < 0 then (treadleref12_Place.j0 k a0 a1 true) else (treadleref12_Place.j0 k a0 a1 (decide (a1 > (a0.size : Int)))))
theorem treadleref12_Place.mono_l : ∀ k, (∀ y0 y1 y2, LeO (treadleref12_Place.j0 k y0 y1 y2) (treadleref12_Place.j0 (k + 1) y0 y1 y2)) ∧ (∀ y0 y1 y2 y3 y4, LeO (treadleref12_Place.l0 k y0 y1 y2 y3 y4) (treadleref12_Place.l0 (k + 1) y0 y1 y2 y3 y4))
  | 0 => ⟨fun _ _ _ r h => by simp [treadleref12_Place.j0] at h, fun _ _ _ _ _ r h => by simp [treadleref12_Place.l0] at h⟩
  | k + 1 => by
    obtain ⟨ih0, ih1⟩ := treadleref12_Place.mono_l k
    refine ⟨?_, ?_⟩
    · intro y0 y1 y2
      unfold treadleref12_Place.j0
      repeat' first
      | (with_reducible exact ih0 _ _ _)
      | (with_reducible exact ih1 _ _ _ _ _)
      | (with_reducible exact LeO.refl _)
      | (with_reducible exact LeO.none _)
      | (with_reducible refine LeO.ite ?_ ?_)
      | (with_reducible refine LeO.bind ?_ (fun _ => ?_))
      | exact ih0 _ _ _
      | exact ih1 _ _ _ _ _
      | exact LeO.none _
      | refine LeO.ite ?_ ?_
      | refine LeO.bind ?_ (fun _ => ?_)
    · intro y0 y1 y2 y3 y4
      unfold treadleref12_Place.l0
      repeat' first
      | (with_reducible exact ih0 _ _ _)
      | (with_reducible exact ih1 _ _ _ _ _)
      | (with_reducible exact LeO.refl _)
      | (with_reducible exact LeO.none _)
      | (with_reducible refine LeO.ite ?_ ?_)
      | (with_reducible refine LeO.bind ?_ (fun _ => ?_))
      | exact ih0 _ _ _
      | exact ih1 _ _ _ _ _
      | exact LeO.none _
      | refine LeO.ite ?_ ?_
      | refine LeO.bind ?_ (fun _ => ?_)
theorem treadleref12_Place.mono : ∀ a0 a1 k, LeO (treadleref12_Place.f k a0 a1) (treadleref12_Place.f (k + 1) a0 a1) := by
  intro a0 a1 k
  obtain ⟨ih0, ih1⟩ := treadleref12_Place.mono_l k
  unfold treadleref12_Place.f
  repeat' first
      | (with_reducible exact ih0 _ _ _)
      | (with_reducible exact ih1 _ _ _ _ _)
      | (with_reducible exact LeO.refl _)
      | (with_reducible exact LeO.none _)
      | (with_reducible refine LeO.ite ?_ ?_)
      | (with_reducible refine LeO.bind ?_ (fun _ => ?_))
      | exact ih0 _ _ _
      | exact ih1 _ _ _ _ _
      | exact LeO.none _
      | refine LeO.ite ?_ ?_
      | refine LeO.bind ?_ (fun _ => ?_)

/-! ### treadlelaw12_LexPlaces: function 13 -/
def treadlelaw12_LexPlaces.f (k : Nat) (a0 : ByteArray) (a1 : Int) : Option (Bool) := (lex_Place.f k a0 a1).bind fun bt470 => ((treadleref12_Place.f k a0 a1).bind fun bt473 => (if bt470.1 = bt473.1 then (if bt470.2.1 = bt473.2.1 then (if bt470.2.2 = bt473.2.2 then ((treadlelaw12_awake.f k).bind fun t476 => (some t476)) else (some false)) else (some false)) else (some false)))
theorem treadlelaw12_LexPlaces.mono : ∀ a0 a1 k, LeO (treadlelaw12_LexPlaces.f k a0 a1) (treadlelaw12_LexPlaces.f (k + 1) a0 a1) := by
  intro a0 a1 k
  unfold treadlelaw12_LexPlaces.f
  repeat' first
      | (with_reducible exact lex_Place.mono _ _ _)
      | (with_reducible exact treadlelaw12_awake.mono _)
      | (with_reducible exact treadleref12_Place.mono _ _ _)
      | (with_reducible exact LeO.refl _)
      | (with_reducible exact LeO.none _)
      | (with_reducible refine LeO.ite ?_ ?_)
      | (with_reducible refine LeO.bind ?_ (fun _ => ?_))
      | exact lex_Place.mono _ _ _
      | exact treadlelaw12_awake.mono _
      | exact treadleref12_Place.mono _ _ _
      | exact LeO.none _
      | refine LeO.ite ?_ ?_
      | refine LeO.bind ?_ (fun _ => ?_)

end Go.Proofs.YtflmcglppeehgaaDoor.P
