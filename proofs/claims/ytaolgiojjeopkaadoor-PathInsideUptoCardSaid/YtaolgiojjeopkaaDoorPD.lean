-- Written by wip/tools/pp.py of this session's repo: the kit's print, driven with given contracts. Lean checks it.
import Derived.Test.YtaolgiojjeopkaaDoorP0
namespace Go.Proofs.YtaolgiojjeopkaaDoor.P
open Go.RowKit Go.Proofs.YtaolgiojjeopkaaDoorW.PrintWords Go.Proofs.YtaolgiojjeopkaaDoorW.PrintLast Go.Proofs.YtaolgiojjeopkaaDoorW.PrintMore
attribute [local go_sem] max2_int min2_int max_two min_two max_three min_three max_four min_four   -- for this text's walks alone
set_option linter.unusedVariables false
set_option linter.unusedSimpArgs false

theorem ownBlock_nf (A : Option Addr) (n c : Nat) : (Value.slice A n c).ownBlock = A.map (·.block) := by cases A <;> rfl
theorem bool_eq1 : ∀ a b : Bool, (a == b) = !(a != b) := by decide

/-! ### treadlelaw04_twin: function 15 -/
def treadlelaw04_twin.f (l0 : List ByteArray) : Option (List ByteArray) := (some (([] : List ByteArray) : List ByteArray)).bind fun y101 => (if y101.length + l0.length < 8796093022208 then (some (y101 ++ l0)) else (none))

/-! ### path_Name: function 25 -/
mutual
def path_Name.j0 : Nat → ByteArray → Bool → Option (Int)
  | 0, _, _ => none
  | k + 1, x0, x21 => if x21 = true then (some 42) else (path_Name.l0 k x0 (x0.size : Int) 0)
def path_Name.l0 : Nat → ByteArray → Int → Int → Option (Int)
  | 0, _, _, _ => none
  | k + 1, x0, x23, x24 => if x24 < x23 then (if 0 ≤ x24 then (if x24 < (x0.size : Int) then (if (bt x0 x24) ≥ 97 then (if (bt x0 x24) ≤ 122 then (path_Name.l0 k x0 x23 (wrap64 (x24 + 1))) else (if (bt x0 x24) ≥ 65 then (if (bt x0 x24) ≤ 90 then (path_Name.l0 k x0 x23 (wrap64 (x24 + 1))) else (if (bt x0 x24) ≥ 48 then (if ((bt x0 x24) ≤ 57) then (path_Name.l0 k x0 x23 (wrap64 (x24 + 1))) else (if (bt x0 x24) = 46 then (path_Name.l0 k x0 x23 (wrap64 (x24 + 1))) else (if (bt x0 x24) = 95 then (path_Name.l0 k x0 x23 (wrap64 (x24 + 1))) else (if (bt x0 x24) = 45 then (path_Name.l0 k x0 x23 (wrap64 (x24 + 1))) else (some 42))))) else (if (bt x0 x24) = 46 then (path_Name.l0 k x0 x23 (wrap64 (x24 + 1))) else (if (bt x0 x24) = 95 then (path_Name.l0 k x0 x23 (wrap64 (x24 + 1))) else (if (bt x0 x24) = 45 then (path_Name.l0 k x0 x23 (wrap64 (x24 + 1))) else (some 42)))))) else (if (bt x0 x24) ≥ 48 then (if ((bt x0 x24) ≤ 57) then (path_Name.l0 k x0 x23 (wrap64 (x24 + 1))) else (if (bt x0 x24) = 46 then (path_Name.l0 k x0 x23 (wrap64 (x24 + 1))) else (if (bt x0 x24) = 95 then (path_Name.l0 k x0 x23 (wrap64 (x24 + 1))) else (if (bt x0 x24) = 45 then (path_Name.l0 k x0 x23 (wrap64 (x24 + 1))) else (some 42))))) else (if (bt x0 x24) = 46 then (path_Name.l0 k x0 x23 (wrap64 (x24 + 1))) else (if (bt x0 x24) = 95 then (path_Name.l0 k x0 x23 (wrap64 (x24 + 1))) else (if (bt x0 x24) = 45 then (path_Name.l0 k x0 x23 (wrap64 (x24 + 1))) else (some 42))))))) else (if (bt x0 x24) ≥ 65 then (if (bt x0 x24) ≤ 90 then (path_Name.l0 k x0 x23 (wrap64 (x24 + 1))) else (if (bt x0 x24) ≥ 48 then (if ((bt x0 x24) ≤ 57) then (path_Name.l0 k x0 x23 (wrap64 (x24 + 1))) else (if (bt x0 x24) = 46 then (path_Name.l0 k x0 x23 (wrap64 (x24 + 1))) else (if (bt x0 x24) = 95 then (path_Name.l0 k x0 x23 (wrap64 (x24 + 1))) else (if (bt x0 x24) = 45 then (path_Name.l0 k x0 x23 (wrap64 (x24 + 1))) else (some 42))))) else (if (bt x0 x24) = 46 then (path_Name.l0 k x0 x23 (wrap64 (x24 + 1))) else (if (bt x0 x24) = 95 then (path_Name.l0 k x0 x23 (wrap64 (x24 + 1))) else (if (bt x0 x24) = 45 then (path_Name.l0 k x0 x23 (wrap64 (x24 + 1))) else (some 42)))))) else (if (bt x0 x24) ≥ 48 then (if ((bt x0 x24) ≤ 57) then (path_Name.l0 k x0 x23 (wrap64 (x24 + 1))) else (if (bt x0 x24) = 46 then (path_Name.l0 k x0 x23 (wrap64 (x24 + 1))) else (if (bt x0 x24) = 95 then (path_Name.l0 k x0 x23 (wrap64 (x24 + 1))) else (if (bt x0 x24) = 45 then (path_Name.l0 k x0 x23 (wrap64 (x24 + 1))) else (some 42))))) else (if (bt x0 x24) = 46 then (path_Name.l0 k x0 x23 (wrap64 (x24 + 1))) else (if (bt x0 x24) = 95 then (path_Name.l0 k x0 x23 (wrap64 (x24 + 1))) else (if (bt x0 x24) = 45 then (path_Name.l0 k x0 x23 (wrap64 (x24 + 1))) else (some 42))))))) else (none)) else (none)) else (some 0)
end
def path_Name.f (k : Nat) (a0 : ByteArray) : Option (Int) := if (a0.size : Int) < 1 then (path_Name.j0 k a0 true) else (if (a0.size : Int) > 64 then (path_Name.j0 k a0 true) else (if a0.toList = ([46] : List UInt8) then (path_Name.j0 k a0 true) else (path_Name.j0 k a0 (a0.toList == ([46, 46] : List UInt8)))))
theorem path_Name.mono_l : ∀ k, (∀ y0 y1, LeO (path_Name.j0 k y0 y1) (path_Name.j0 (k + 1) y0 y1)) ∧ (∀ y0 y1 y2, LeO (path_Name.l0 k y0 y1 y2) (path_Name.l0 (k + 1) y0 y1 y2))
  | 0 => ⟨fun _ _ r h => by simp [path_Name.j0] at h, fun _ _ _ r h => by simp [path_Name.l0] at h⟩
  | k + 1 => by
    obtain ⟨ih0, ih1⟩ := path_Name.mono_l k
    refine ⟨?_, ?_⟩
    · intro y0 y1
      unfold path_Name.j0
      repeat' first
      | (with_reducible exact ih0 _ _)
      | (with_reducible exact ih1 _ _ _)
      | (with_reducible exact LeO.refl _)
      | (with_reducible exact LeO.none _)
      | (with_reducible refine LeO.ite ?_ ?_)
      | (with_reducible refine LeO.bind ?_ (fun _ => ?_))
      | exact ih0 _ _
      | exact ih1 _ _ _
      | exact LeO.none _
      | refine LeO.ite ?_ ?_
      | refine LeO.bind ?_ (fun _ => ?_)
    · intro y0 y1 y2
      unfold path_Name.l0
      repeat' first
      | (with_reducible exact ih0 _ _)
      | (with_reducible exact ih1 _ _ _)
      | (with_reducible exact LeO.refl _)
      | (with_reducible exact LeO.none _)
      | (with_reducible refine LeO.ite ?_ ?_)
      | (with_reducible refine LeO.bind ?_ (fun _ => ?_))
      | exact ih0 _ _
      | exact ih1 _ _ _
      | exact LeO.none _
      | refine LeO.ite ?_ ?_
      | refine LeO.bind ?_ (fun _ => ?_)
theorem path_Name.mono : ∀ a0 k, LeO (path_Name.f k a0) (path_Name.f (k + 1) a0) := by
  intro a0 k
  obtain ⟨ih0, ih1⟩ := path_Name.mono_l k
  unfold path_Name.f
  repeat' first
      | (with_reducible exact ih0 _ _)
      | (with_reducible exact ih1 _ _ _)
      | (with_reducible exact LeO.refl _)
      | (with_reducible exact LeO.none _)
      | (with_reducible refine LeO.ite ?_ ?_)
      | (with_reducible refine LeO.bind ?_ (fun _ => ?_))
      | exact ih0 _ _
      | exact ih1 _ _ _
      | exact LeO.none _
      | refine LeO.ite ?_ ?_
      | refine LeO.bind ?_ (fun _ => ?_)

/-! ### strings_Join: function 43 -/
def strings_Join.f (l0 : List ByteArray) (a1 : ByteArray) : Option (ByteArray) :=
  if l0.length ≤ 140737488355328 ∧ (Lib.join (l0.map (·.data.toList)) a1.data.toList).length ≤ 140737488355328 then some ⟨(Lib.join (l0.map (·.data.toList)) a1.data.toList).toArray⟩ else none

/-! ### path_Of: function 16 -/
def path_Of.l0 : Nat → List ByteArray → List ByteArray → Int → Int → Option (ByteArray × Int)
  | 0, _, _, _, _ => none
  | k + 1, x0, x6, x7, x8 => if x8 < x7 then (if 0 ≤ x8 then (if x8 < (x6.length : Int) then ((path_Name.f k (rdOf ByteArray.empty x6 x8)).bind fun t108 => (if t108 = 0 then (path_Of.l0 k x0 x6 x7 (wrap64 (x8 + 1))) else (some ((⟨#[]⟩ : ByteArray), 42)))) else (none)) else (none)) else (if (x0.length : Int) > 32 then (some ((⟨#[]⟩ : ByteArray), 44)) else ((strings_Join.f x0 (⟨#[47]⟩ : ByteArray)).bind fun t109 => (some (t109, 0))))
def path_Of.f (k : Nat) (l0 : List ByteArray) : Option (ByteArray × Int) := path_Of.l0 k l0 l0 (l0.length : Int) 0
theorem path_Of.mono_l : ∀ k, (∀ y0 y1 y2 y3, LeO (path_Of.l0 k y0 y1 y2 y3) (path_Of.l0 (k + 1) y0 y1 y2 y3))
  | 0 => fun _ _ _ _ r h => by simp [path_Of.l0] at h
  | k + 1 => by
    have ih0 := path_Of.mono_l k
    · intro y0 y1 y2 y3
      unfold path_Of.l0
      repeat' first
      | (with_reducible exact ih0 _ _ _ _)
      | (with_reducible exact path_Name.mono _ _)
      | (with_reducible exact LeO.refl _)
      | (with_reducible exact LeO.none _)
      | (with_reducible refine LeO.ite ?_ ?_)
      | (with_reducible refine LeO.bind ?_ (fun _ => ?_))
      | exact ih0 _ _ _ _
      | exact path_Name.mono _ _
      | exact LeO.none _
      | refine LeO.ite ?_ ?_
      | refine LeO.bind ?_ (fun _ => ?_)
theorem path_Of.mono : ∀ a0 k, LeO (path_Of.f k a0) (path_Of.f (k + 1) a0) := by
  intro a0 k
  have ih0 := path_Of.mono_l k
  unfold path_Of.f
  repeat' first
      | (with_reducible exact ih0 _ _ _ _)
      | (with_reducible exact path_Name.mono _ _)
      | (with_reducible exact LeO.refl _)
      | (with_reducible exact LeO.none _)
      | (with_reducible refine LeO.ite ?_ ?_)
      | (with_reducible refine LeO.bind ?_ (fun _ => ?_))
      | exact ih0 _ _ _ _
      | exact path_Name.mono _ _
      | exact LeO.none _
      | refine LeO.ite ?_ ?_
      | refine LeO.bind ?_ (fun _ => ?_)

/-! ### treadleref04_Name: function 26 -/
mutual
def treadleref04_Name.j0 : Nat → ByteArray → Bool → Option (Bool)
  | 0, _, _ => none
  | k + 1, x0, x20 => if x20 = true then (some false) else (treadleref04_Name.l0 k x0 0)
def treadleref04_Name.l0 : Nat → ByteArray → Int → Option (Bool)
  | 0, _, _ => none
  | k + 1, x0, x3 => if x3 < (x0.size : Int) then (if 0 ≤ x3 then (if (bt x0 x3) ≥ 97 then (if (bt x0 x3) ≤ 122 then (treadleref04_Name.l0 k x0 (wrap64 (x3 + 1))) else (if (bt x0 x3) ≥ 65 then (if (bt x0 x3) ≤ 90 then (treadleref04_Name.l0 k x0 (wrap64 (x3 + 1))) else (if (bt x0 x3) ≥ 48 then (if (bt x0 x3) ≤ 57 then (treadleref04_Name.l0 k x0 (wrap64 (x3 + 1))) else (if (bt x0 x3) = 46 then (treadleref04_Name.l0 k x0 (wrap64 (x3 + 1))) else (if (bt x0 x3) = 95 then (treadleref04_Name.l0 k x0 (wrap64 (x3 + 1))) else (if ((bt x0 x3) = 45) then (treadleref04_Name.l0 k x0 (wrap64 (x3 + 1))) else (some false))))) else (if (bt x0 x3) = 46 then (treadleref04_Name.l0 k x0 (wrap64 (x3 + 1))) else (if (bt x0 x3) = 95 then (treadleref04_Name.l0 k x0 (wrap64 (x3 + 1))) else (if ((bt x0 x3) = 45) then (treadleref04_Name.l0 k x0 (wrap64 (x3 + 1))) else (some false)))))) else (if (bt x0 x3) ≥ 48 then (if (bt x0 x3) ≤ 57 then (treadleref04_Name.l0 k x0 (wrap64 (x3 + 1))) else (if (bt x0 x3) = 46 then (treadleref04_Name.l0 k x0 (wrap64 (x3 + 1))) else (if (bt x0 x3) = 95 then (treadleref04_Name.l0 k x0 (wrap64 (x3 + 1))) else (if ((bt x0 x3) = 45) then (treadleref04_Name.l0 k x0 (wrap64 (x3 + 1))) else (some false))))) else (if (bt x0 x3) = 46 then (treadleref04_Name.l0 k x0 (wrap64 (x3 + 1))) else (if (bt x0 x3) = 95 then (treadleref04_Name.l0 k x0 (wrap64 (x3 + 1))) else (if ((bt x0 x3) = 45) then (treadleref04_Name.l0 k x0 (wrap64 (x3 + 1))) else (some false))))))) else (if (bt x0 x3) ≥ 65 then (if (bt x0 x3) ≤ 90 then (treadleref04_Name.l0 k x0 (wrap64 (x3 + 1))) else (if (bt x0 x3) ≥ 48 then (if (bt x0 x3) ≤ 57 then (treadleref04_Name.l0 k x0 (wrap64 (x3 + 1))) else (if (bt x0 x3) = 46 then (treadleref04_Name.l0 k x0 (wrap64 (x3 + 1))) else (if (bt x0 x3) = 95 then (treadleref04_Name.l0 k x0 (wrap64 (x3 + 1))) else (if ((bt x0 x3) = 45) then (treadleref04_Name.l0 k x0 (wrap64 (x3 + 1))) else (some false))))) else (if (bt x0 x3) = 46 then (treadleref04_Name.l0 k x0 (wrap64 (x3 + 1))) else (if (bt x0 x3) = 95 then (treadleref04_Name.l0 k x0 (wrap64 (x3 + 1))) else (if ((bt x0 x3) = 45) then (treadleref04_Name.l0 k x0 (wrap64 (x3 + 1))) else (some false)))))) else (if (bt x0 x3) ≥ 48 then (if (bt x0 x3) ≤ 57 then (treadleref04_Name.l0 k x0 (wrap64 (x3 + 1))) else (if (bt x0 x3) = 46 then (treadleref04_Name.l0 k x0 (wrap64 (x3 + 1))) else (if (bt x0 x3) = 95 then (treadleref04_Name.l0 k x0 (wrap64 (x3 + 1))) else (if ((bt x0 x3) = 45) then (treadleref04_Name.l0 k x0 (wrap64 (x3 + 1))) else (some false))))) else (if (bt x0 x3) = 46 then (treadleref04_Name.l0 k x0 (wrap64 (x3 + 1))) else (if (bt x0 x3) = 95 then (treadleref04_Name.l0 k x0 (wrap64 (x3 + 1))) else (if ((bt x0 x3) = 45) then (treadleref04_Name.l0 k x0 (wrap64 (x3 + 1))) else (some false))))))) else (none)) else (some true)
end
def treadleref04_Name.f (k : Nat) (a0 : ByteArray) : Option (Bool) := if (a0.size : Int) < 1 then (treadleref04_Name.j0 k a0 true) else (if (a0.size : Int) > 64 then (treadleref04_Name.j0 k a0 true) else (if a0.toList = ([46] : List UInt8) then (treadleref04_Name.j0 k a0 true) else (treadleref04_Name.j0 k a0 (a0.toList == ([46, 46] : List UInt8)))))
theorem treadleref04_Name.mono_l : ∀ k, (∀ y0 y1, LeO (treadleref04_Name.j0 k y0 y1) (treadleref04_Name.j0 (k + 1) y0 y1)) ∧ (∀ y0 y1, LeO (treadleref04_Name.l0 k y0 y1) (treadleref04_Name.l0 (k + 1) y0 y1))
  | 0 => ⟨fun _ _ r h => by simp [treadleref04_Name.j0] at h, fun _ _ r h => by simp [treadleref04_Name.l0] at h⟩
  | k + 1 => by
    obtain ⟨ih0, ih1⟩ := treadleref04_Name.mono_l k
    refine ⟨?_, ?_⟩
    · intro y0 y1
      unfold treadleref04_Name.j0
      repeat' first
      | (with_reducible exact ih0 _ _)
      | (with_reducible exact ih1 _ _)
      | (with_reducible exact LeO.refl _)
      | (with_reducible exact LeO.none _)
      | (with_reducible refine LeO.ite ?_ ?_)
      | (with_reducible refine LeO.bind ?_ (fun _ => ?_))
      | exact ih0 _ _
      | exact ih1 _ _
      | exact LeO.none _
      | refine LeO.ite ?_ ?_
      | refine LeO.bind ?_ (fun _ => ?_)
    · intro y0 y1
      unfold treadleref04_Name.l0
      repeat' first
      | (with_reducible exact ih0 _ _)
      | (with_reducible exact ih1 _ _)
      | (with_reducible exact LeO.refl _)
      | (with_reducible exact LeO.none _)
      | (with_reducible refine LeO.ite ?_ ?_)
      | (with_reducible refine LeO.bind ?_ (fun _ => ?_))
      | exact ih0 _ _
      | exact ih1 _ _
      | exact LeO.none _
      | refine LeO.ite ?_ ?_
      | refine LeO.bind ?_ (fun _ => ?_)
theorem treadleref04_Name.mono : ∀ a0 k, LeO (treadleref04_Name.f k a0) (treadleref04_Name.f (k + 1) a0) := by
  intro a0 k
  obtain ⟨ih0, ih1⟩ := treadleref04_Name.mono_l k
  unfold treadleref04_Name.f
  repeat' first
      | (with_reducible exact ih0 _ _)
      | (with_reducible exact ih1 _ _)
      | (with_reducible exact LeO.refl _)
      | (with_reducible exact LeO.none _)
      | (with_reducible refine LeO.ite ?_ ?_)
      | (with_reducible refine LeO.bind ?_ (fun _ => ?_))
      | exact ih0 _ _
      | exact ih1 _ _
      | exact LeO.none _
      | refine LeO.ite ?_ ?_
      | refine LeO.bind ?_ (fun _ => ?_)

/-! ### treadleref04_text: function 44 -/
def treadleref04_text.l0 : Nat → List ByteArray → ByteArray → Int → Option (ByteArray)
  | 0, _, _, _ => none
  | k + 1, x0, x3, x4 => if x4 < (x0.length : Int) then (if x4 > 0 then (if x3.size + 1 ≤ 9223372036854775807 then (if 0 ≤ x4 then (if (x3 ++ (⟨#[47]⟩ : ByteArray)).size + (rdOf ByteArray.empty x0 x4).size ≤ 9223372036854775807 then (treadleref04_text.l0 k x0 ((x3 ++ (⟨#[47]⟩ : ByteArray)) ++ (rdOf ByteArray.empty x0 x4)) (wrap64 (x4 + 1))) else (none)) else (none)) else (none)) else (if 0 ≤ x4 then (if x3.size + (rdOf ByteArray.empty x0 x4).size ≤ 9223372036854775807 then (treadleref04_text.l0 k x0 (x3 ++ (rdOf ByteArray.empty x0 x4)) (wrap64 (x4 + 1))) else (none)) else (none))) else (some x3)
def treadleref04_text.f (k : Nat) (l0 : List ByteArray) : Option (ByteArray) := treadleref04_text.l0 k l0 (⟨#[]⟩ : ByteArray) 0
theorem treadleref04_text.mono_l : ∀ k, (∀ y0 y1 y2, LeO (treadleref04_text.l0 k y0 y1 y2) (treadleref04_text.l0 (k + 1) y0 y1 y2))
  | 0 => fun _ _ _ r h => by simp [treadleref04_text.l0] at h
  | k + 1 => by
    have ih0 := treadleref04_text.mono_l k
    · intro y0 y1 y2
      unfold treadleref04_text.l0
      repeat' first
      | (with_reducible exact ih0 _ _ _)
      | (with_reducible exact LeO.refl _)
      | (with_reducible exact LeO.none _)
      | (with_reducible refine LeO.ite ?_ ?_)
      | (with_reducible refine LeO.bind ?_ (fun _ => ?_))
      | exact ih0 _ _ _
      | exact LeO.none _
      | refine LeO.ite ?_ ?_
      | refine LeO.bind ?_ (fun _ => ?_)
theorem treadleref04_text.mono : ∀ a0 k, LeO (treadleref04_text.f k a0) (treadleref04_text.f (k + 1) a0) := by
  intro a0 k
  have ih0 := treadleref04_text.mono_l k
  unfold treadleref04_text.f
  repeat' first
      | (with_reducible exact ih0 _ _ _)
      | (with_reducible exact LeO.refl _)
      | (with_reducible exact LeO.none _)
      | (with_reducible refine LeO.ite ?_ ?_)
      | (with_reducible refine LeO.bind ?_ (fun _ => ?_))
      | exact ih0 _ _ _
      | exact LeO.none _
      | refine LeO.ite ?_ ?_
      | refine LeO.bind ?_ (fun _ => ?_)

/-! ### treadleref04_Of: function 17 -/
def treadleref04_Of.l0 : Nat → List ByteArray → Int → Option (ByteArray × Int)
  | 0, _, _ => none
  | k + 1, x0, x4 => if x4 < (x0.length : Int) then (if 0 ≤ x4 then ((treadleref04_Name.f k (rdOf ByteArray.empty x0 x4)).bind fun t113 => (if t113 = true then (treadleref04_Of.l0 k x0 (wrap64 (x4 + 1))) else (some ((⟨#[]⟩ : ByteArray), 42)))) else (none)) else (if (x0.length : Int) > 32 then (some ((⟨#[]⟩ : ByteArray), 44)) else ((treadleref04_text.f k x0).bind fun t114 => (some (t114, 0))))
def treadleref04_Of.f (k : Nat) (l0 : List ByteArray) : Option (ByteArray × Int) := treadleref04_Of.l0 k l0 0
theorem treadleref04_Of.mono_l : ∀ k, (∀ y0 y1, LeO (treadleref04_Of.l0 k y0 y1) (treadleref04_Of.l0 (k + 1) y0 y1))
  | 0 => fun _ _ r h => by simp [treadleref04_Of.l0] at h
  | k + 1 => by
    have ih0 := treadleref04_Of.mono_l k
    · intro y0 y1
      unfold treadleref04_Of.l0
      repeat' first
      | (with_reducible exact ih0 _ _)
      | (with_reducible exact treadleref04_Name.mono _ _)
      | (with_reducible exact treadleref04_text.mono _ _)
      | (with_reducible exact LeO.refl _)
      | (with_reducible exact LeO.none _)
      | (with_reducible refine LeO.ite ?_ ?_)
      | (with_reducible refine LeO.bind ?_ (fun _ => ?_))
      | exact ih0 _ _
      | exact treadleref04_Name.mono _ _
      | exact treadleref04_text.mono _ _
      | exact LeO.none _
      | refine LeO.ite ?_ ?_
      | refine LeO.bind ?_ (fun _ => ?_)
theorem treadleref04_Of.mono : ∀ a0 k, LeO (treadleref04_Of.f k a0) (treadleref04_Of.f (k + 1) a0) := by
  intro a0 k
  have ih0 := treadleref04_Of.mono_l k
  unfold treadleref04_Of.f
  repeat' first
      | (with_reducible exact ih0 _ _)
      | (with_reducible exact treadleref04_Name.mono _ _)
      | (with_reducible exact treadleref04_text.mono _ _)
      | (with_reducible exact LeO.refl _)
      | (with_reducible exact LeO.none _)
      | (with_reducible refine LeO.ite ?_ ?_)
      | (with_reducible refine LeO.bind ?_ (fun _ => ?_))
      | exact ih0 _ _
      | exact treadleref04_Name.mono _ _
      | exact treadleref04_text.mono _ _
      | exact LeO.none _
      | refine LeO.ite ?_ ?_
      | refine LeO.bind ?_ (fun _ => ?_)

/-! ### treadlelaw04_num: function 18 -/
def treadlelaw04_num.f (a0 : Int) : Option (Int) := some a0

/-! ### treadleref04_Same: function 19 -/
def treadleref04_Same.l0 : Nat → List ByteArray → List ByteArray → Int → Option (Bool)
  | 0, _, _, _ => none
  | k + 1, x0, x1, x5 => if x5 < (x0.length : Int) then (if 0 ≤ x5 then (if x5 < (x1.length : Int) then (if (rdOf ByteArray.empty x0 x5).toList = (rdOf ByteArray.empty x1 x5).toList then (treadleref04_Same.l0 k x0 x1 (wrap64 (x5 + 1))) else (some false)) else (none)) else (none)) else (some true)
def treadleref04_Same.f (k : Nat) (l0 : List ByteArray) (l1 : List ByteArray) : Option (Bool) := if (l0.length : Int) = (l1.length : Int) then (treadleref04_Same.l0 k l0 l1 0) else (some false)
theorem treadleref04_Same.mono_l : ∀ k, (∀ y0 y1 y2, LeO (treadleref04_Same.l0 k y0 y1 y2) (treadleref04_Same.l0 (k + 1) y0 y1 y2))
  | 0 => fun _ _ _ r h => by simp [treadleref04_Same.l0] at h
  | k + 1 => by
    have ih0 := treadleref04_Same.mono_l k
    · intro y0 y1 y2
      unfold treadleref04_Same.l0
      repeat' first
      | (with_reducible exact ih0 _ _ _)
      | (with_reducible exact LeO.refl _)
      | (with_reducible exact LeO.none _)
      | (with_reducible refine LeO.ite ?_ ?_)
      | (with_reducible refine LeO.bind ?_ (fun _ => ?_))
      | exact ih0 _ _ _
      | exact LeO.none _
      | refine LeO.ite ?_ ?_
      | refine LeO.bind ?_ (fun _ => ?_)
theorem treadleref04_Same.mono : ∀ a0 a1 k, LeO (treadleref04_Same.f k a0 a1) (treadleref04_Same.f (k + 1) a0 a1) := by
  intro a0 a1 k
  have ih0 := treadleref04_Same.mono_l k
  unfold treadleref04_Same.f
  repeat' first
      | (with_reducible exact ih0 _ _ _)
      | (with_reducible exact LeO.refl _)
      | (with_reducible exact LeO.none _)
      | (with_reducible refine LeO.ite ?_ ?_)
      | (with_reducible refine LeO.bind ?_ (fun _ => ?_))
      | exact ih0 _ _ _
      | exact LeO.none _
      | refine LeO.ite ?_ ?_
      | refine LeO.bind ?_ (fun _ => ?_)

/-! ### strings_explode: function 66 -/
/-- told nowhere: no call comes here -/
def strings_explode.f (a0 : ByteArray) (a1 : Int) : Option (List ByteArray) := none

/-! ### strings_Count: function 67 -/
/-- at a substr of one byte alone -/
def strings_Count.f (a0 : ByteArray) (a1 : ByteArray) : Option (Int) :=
  match a1.data.toList with
  | [c] => some (Lib.countByte a0.data.toList c)
  | _ => none

/-! ### stringslite_Index: function 69 -/
/-- at a substr of one byte alone -/
def stringslite_Index.f (a0 : ByteArray) (a1 : ByteArray) : Option (Int) :=
  match a1.data.toList with
  | [c] => some (Lib.indexByte a0.data.toList c)
  | _ => none

/-! ### strings_Index: function 68 -/
def strings_Index.f (a0 : ByteArray) (a1 : ByteArray) : Option (Int) := (stringslite_Index.f a0 a1).bind fun t117 => (some t117)

/-! ### strings_genSplit: function 59 -/
mutual
def strings_genSplit.j0 : Nat → ByteArray → ByteArray → Int → Int → Option (List ByteArray)
  | 0, _, _, _, _ => none
  | k + 1, x0, x1, x2, x3 => if 0 ≤ (mn x3 (wrap64 ((x0.size : Int) + 1))) then (if (mn x3 (wrap64 ((x0.size : Int) + 1)) : Int).toNat ≤ 17592186044416 then (strings_genSplit.l0 k x0 x1 x2 (wrap64 ((mn x3 (wrap64 ((x0.size : Int) + 1))) - 1)) (List.replicate (mn x3 (wrap64 ((x0.size : Int) + 1)) : Int).toNat (⟨#[]⟩ : ByteArray)) 0) else (none)) else (none)
def strings_genSplit.l0 : Nat → ByteArray → ByteArray → Int → Int → List ByteArray → Int → Option (List ByteArray)
  | 0, _, _, _, _, _, _ => none
  | k + 1, x0, x1, x2, x3, x9, x10 => if x10 < x3 then ((strings_Index.f x0 x1).bind fun t125 => (if t125 < 0 then (if 0 ≤ x10 then (if x10 < (x9.length : Int) then (if 0 ≤ (wrap64 (x10 + 1)) then (if (wrap64 (x10 + 1)) ≤ (x9.length : Int) then (some ((x9.set (x10 : Int).toNat x0).take ((wrap64 (x10 + 1)) : Int).toNat)) else (none)) else (none)) else (none)) else (none)) else (if 0 ≤ (wrap64 (t125 + x2)) then (if (wrap64 (t125 + x2)) ≤ (x0.size : Int) then (if 0 ≤ x10 then (if x10 < (x9.length : Int) then (if 0 ≤ (wrap64 (t125 + (x1.size : Int))) then (if (wrap64 (t125 + (x1.size : Int))) ≤ (x0.size : Int) then (strings_genSplit.l0 k (x0.extract ((wrap64 (t125 + (x1.size : Int))) : Int).toNat x0.size) x1 x2 x3 (x9.set (x10 : Int).toNat (x0.extract 0 ((wrap64 (t125 + x2)) : Int).toNat)) (wrap64 (x10 + 1))) else (none)) else (none)) else (none)) else (none)) else (none)) else (none)))) else (if 0 ≤ x10 then (if x10 < (x9.length : Int) then (if 0 ≤ (wrap64 (x10 + 1)) then (if (wrap64 (x10 + 1)) ≤ (x9.length : Int) then (some ((x9.set (x10 : Int).toNat x0).take ((wrap64 (x10 + 1)) : Int).toNat)) else (none)) else (none)) else (none)) else (none))
end
def strings_genSplit.f (k : Nat) (a0 : ByteArray) (a1 : ByteArray) (a2 : Int) (a3 : Int) : Option (List ByteArray) := if a3 = 0 then (some ([] : List ByteArray)) else (if a1.toList = ([] : List UInt8) then ((strings_explode.f a0 a3).bind fun t118 => (some t118)) else (if a3 < 0 then ((strings_Count.f a0 a1).bind fun t121 => (strings_genSplit.j0 k a0 a1 a2 (wrap64 (t121 + 1)))) else (strings_genSplit.j0 k a0 a1 a2 a3)))
theorem strings_genSplit.mono_l : ∀ k, (∀ y0 y1 y2 y3, LeO (strings_genSplit.j0 k y0 y1 y2 y3) (strings_genSplit.j0 (k + 1) y0 y1 y2 y3)) ∧ (∀ y0 y1 y2 y3 y4 y5, LeO (strings_genSplit.l0 k y0 y1 y2 y3 y4 y5) (strings_genSplit.l0 (k + 1) y0 y1 y2 y3 y4 y5))
  | 0 => ⟨fun _ _ _ _ r h => by simp [strings_genSplit.j0] at h, fun _ _ _ _ _ _ r h => by simp [strings_genSplit.l0] at h⟩
  | k + 1 => by
    obtain ⟨ih0, ih1⟩ := strings_genSplit.mono_l k
    refine ⟨?_, ?_⟩
    · intro y0 y1 y2 y3
      unfold strings_genSplit.j0
      repeat' first
      | (with_reducible exact ih0 _ _ _ _)
      | (with_reducible exact ih1 _ _ _ _ _ _)
      | (with_reducible exact LeO.refl _)
      | (with_reducible exact LeO.none _)
      | (with_reducible refine LeO.ite ?_ ?_)
      | (with_reducible refine LeO.bind ?_ (fun _ => ?_))
      | exact ih0 _ _ _ _
      | exact ih1 _ _ _ _ _ _
      | exact LeO.none _
      | refine LeO.ite ?_ ?_
      | refine LeO.bind ?_ (fun _ => ?_)
    · intro y0 y1 y2 y3 y4 y5
      unfold strings_genSplit.l0
      repeat' first
      | (with_reducible exact ih0 _ _ _ _)
      | (with_reducible exact ih1 _ _ _ _ _ _)
      | (with_reducible exact LeO.refl _)
      | (with_reducible exact LeO.none _)
      | (with_reducible refine LeO.ite ?_ ?_)
      | (with_reducible refine LeO.bind ?_ (fun _ => ?_))
      | exact ih0 _ _ _ _
      | exact ih1 _ _ _ _ _ _
      | exact LeO.none _
      | refine LeO.ite ?_ ?_
      | refine LeO.bind ?_ (fun _ => ?_)
theorem strings_genSplit.mono : ∀ a0 a1 a2 a3 k, LeO (strings_genSplit.f k a0 a1 a2 a3) (strings_genSplit.f (k + 1) a0 a1 a2 a3) := by
  intro a0 a1 a2 a3 k
  obtain ⟨ih0, ih1⟩ := strings_genSplit.mono_l k
  unfold strings_genSplit.f
  repeat' first
      | (with_reducible exact ih0 _ _ _ _)
      | (with_reducible exact ih1 _ _ _ _ _ _)
      | (with_reducible exact LeO.refl _)
      | (with_reducible exact LeO.none _)
      | (with_reducible refine LeO.ite ?_ ?_)
      | (with_reducible refine LeO.bind ?_ (fun _ => ?_))
      | exact ih0 _ _ _ _
      | exact ih1 _ _ _ _ _ _
      | exact LeO.none _
      | refine LeO.ite ?_ ?_
      | refine LeO.bind ?_ (fun _ => ?_)

/-! ### strings_Split: function 47 -/
def strings_Split.f (k : Nat) (a0 : ByteArray) (a1 : ByteArray) : Option (List ByteArray) := (strings_genSplit.f k a0 a1 0 (-1)).bind fun t135 => (some t135)
theorem strings_Split.mono : ∀ a0 a1 k, LeO (strings_Split.f k a0 a1) (strings_Split.f (k + 1) a0 a1) := by
  intro a0 a1 k
  unfold strings_Split.f
  repeat' first
      | (with_reducible exact strings_genSplit.mono _ _ _ _ _)
      | (with_reducible exact LeO.refl _)
      | (with_reducible exact LeO.none _)
      | (with_reducible refine LeO.ite ?_ ?_)
      | (with_reducible refine LeO.bind ?_ (fun _ => ?_))
      | exact strings_genSplit.mono _ _ _ _ _
      | exact LeO.none _
      | refine LeO.ite ?_ ?_
      | refine LeO.bind ?_ (fun _ => ?_)

/-! ### path_Names: function 24 -/
def path_Names.l0 : Nat → List ByteArray → List ByteArray → Int → Int → Option (List ByteArray × Int)
  | 0, _, _, _, _ => none
  | k + 1, x4, x14, x15, x16 => if x16 < x15 then (if 0 ≤ x16 then (if x16 < (x14.length : Int) then ((path_Name.f k (rdOf ByteArray.empty x14 x16)).bind fun t142 => (if t142 = 0 then (path_Names.l0 k x4 x14 x15 (wrap64 (x16 + 1))) else (some (([] : List ByteArray), 45)))) else (none)) else (none)) else (some (x4, 0))
def path_Names.f (k : Nat) (a0 : ByteArray) : Option (List ByteArray × Int) := if a0.toList = ([] : List UInt8) then (some (([] : List ByteArray), 0)) else ((strings_Split.f k a0 (⟨#[47]⟩ : ByteArray)).bind fun t138 => (if (t138.length : Int) > 32 then (some (([] : List ByteArray), 45)) else (path_Names.l0 k t138 t138 (t138.length : Int) 0)))
theorem path_Names.mono_l : ∀ k, (∀ y0 y1 y2 y3, LeO (path_Names.l0 k y0 y1 y2 y3) (path_Names.l0 (k + 1) y0 y1 y2 y3))
  | 0 => fun _ _ _ _ r h => by simp [path_Names.l0] at h
  | k + 1 => by
    have ih0 := path_Names.mono_l k
    · intro y0 y1 y2 y3
      unfold path_Names.l0
      repeat' first
      | (with_reducible exact ih0 _ _ _ _)
      | (with_reducible exact path_Name.mono _ _)
      | (with_reducible exact strings_Split.mono _ _ _)
      | (with_reducible exact LeO.refl _)
      | (with_reducible exact LeO.none _)
      | (with_reducible refine LeO.ite ?_ ?_)
      | (with_reducible refine LeO.bind ?_ (fun _ => ?_))
      | exact ih0 _ _ _ _
      | exact path_Name.mono _ _
      | exact strings_Split.mono _ _ _
      | exact LeO.none _
      | refine LeO.ite ?_ ?_
      | refine LeO.bind ?_ (fun _ => ?_)
theorem path_Names.mono : ∀ a0 k, LeO (path_Names.f k a0) (path_Names.f (k + 1) a0) := by
  intro a0 k
  have ih0 := path_Names.mono_l k
  unfold path_Names.f
  repeat' first
      | (with_reducible exact ih0 _ _ _ _)
      | (with_reducible exact path_Name.mono _ _)
      | (with_reducible exact strings_Split.mono _ _ _)
      | (with_reducible exact LeO.refl _)
      | (with_reducible exact LeO.none _)
      | (with_reducible refine LeO.ite ?_ ?_)
      | (with_reducible refine LeO.bind ?_ (fun _ => ?_))
      | exact ih0 _ _ _ _
      | exact path_Name.mono _ _
      | exact strings_Split.mono _ _ _
      | exact LeO.none _
      | refine LeO.ite ?_ ?_
      | refine LeO.bind ?_ (fun _ => ?_)

/-! ### stringslite_HasPrefix: function 65 -/
def stringslite_HasPrefix.f (a0 : ByteArray) (a1 : ByteArray) : Option (Bool) := if (a0.size : Int) ≥ (a1.size : Int) then (if 0 ≤ (a1.size : Int) then (if (a1.size : Int) ≤ (a0.size : Int) then (some ((a0.extract 0 ((a1.size : Int) : Int).toNat).toList == a1.toList)) else (none)) else (none)) else (some false)

/-! ### strings_HasPrefix: function 58 -/
def strings_HasPrefix.f (a0 : ByteArray) (a1 : ByteArray) : Option (Bool) := (stringslite_HasPrefix.f a0 a1).bind fun t143 => (some t143)

/-! ### path_gone: function 45 -/
mutual
def path_gone.l0 : Nat → List ByteArray → List ByteArray → Int → Int → Option (List ByteArray × Int)
  | 0, _, _, _, _ => none
  | k + 1, x0, x14, x15, x16 => if x16 < x15 then (if 0 ≤ x16 then (if x16 < (x14.length : Int) then (if (rdOf ByteArray.empty x14 x16).toList = ([] : List UInt8) then (path_gone.j1 k x0 (rdOf ByteArray.empty x14 x16) x14 x15 x16 (rdOf ByteArray.empty x14 x16) ((rdOf ByteArray.empty x14 x16).toList == ([] : List UInt8))) else (path_gone.j1 k x0 (rdOf ByteArray.empty x14 x16) x14 x15 x16 (rdOf ByteArray.empty x14 x16) ((rdOf ByteArray.empty x14 x16).toList == ([46] : List UInt8)))) else (none)) else (none)) else (some (x0, 0))
def path_gone.j1 : Nat → List ByteArray → ByteArray → List ByteArray → Int → Int → ByteArray → Bool → Option (List ByteArray × Int)
  | 0, _, _, _, _, _, _, _ => none
  | k + 1, x0, x7, x14, x15, x16, x20, x28 => if x28 = true then (path_gone.l0 k x0 x14 x15 (wrap64 (x16 + 1))) else (if x20.toList = ([46, 46] : List UInt8) then (if (x0.length : Int) = 0 then (some (([] : List ByteArray), 43)) else (if 0 ≤ (wrap64 ((x0.length : Int) - 1)) then (if (wrap64 ((x0.length : Int) - 1)) ≤ (x0.length : Int) then (path_gone.l0 k (x0.take ((wrap64 ((x0.length : Int) - 1)) : Int).toNat) x14 x15 (wrap64 (x16 + 1))) else (none)) else (none))) else ((path_Name.f k x7).bind fun t152 => (if t152 = 0 then (if x0.length < 8796093022208 then (path_gone.l0 k (x0 ++ [x7]) x14 x15 (wrap64 (x16 + 1))) else (none)) else (some (([] : List ByteArray), 42)))))
end
def path_gone.f (k : Nat) (l0 : List ByteArray) (a1 : ByteArray) : Option (List ByteArray × Int) := if (a1.size : Int) > 4096 then (some (([] : List ByteArray), 40)) else ((strings_HasPrefix.f a1 (⟨#[47]⟩ : ByteArray)).bind fun t144 => (if t144 = true then (some (([] : List ByteArray), 41)) else ((strings_Split.f k a1 (⟨#[47]⟩ : ByteArray)).bind fun t145 => (path_gone.l0 k l0 t145 (t145.length : Int) 0))))
theorem path_gone.mono_l : ∀ k, (∀ y0 y1 y2 y3, LeO (path_gone.l0 k y0 y1 y2 y3) (path_gone.l0 (k + 1) y0 y1 y2 y3)) ∧ (∀ y0 y1 y2 y3 y4 y5 y6, LeO (path_gone.j1 k y0 y1 y2 y3 y4 y5 y6) (path_gone.j1 (k + 1) y0 y1 y2 y3 y4 y5 y6))
  | 0 => ⟨fun _ _ _ _ r h => by simp [path_gone.l0] at h, fun _ _ _ _ _ _ _ r h => by simp [path_gone.j1] at h⟩
  | k + 1 => by
    obtain ⟨ih0, ih1⟩ := path_gone.mono_l k
    refine ⟨?_, ?_⟩
    · intro y0 y1 y2 y3
      unfold path_gone.l0
      repeat' first
      | (with_reducible exact ih0 _ _ _ _)
      | (with_reducible exact ih1 _ _ _ _ _ _ _)
      | (with_reducible exact path_Name.mono _ _)
      | (with_reducible exact strings_Split.mono _ _ _)
      | (with_reducible exact LeO.refl _)
      | (with_reducible exact LeO.none _)
      | (with_reducible refine LeO.ite ?_ ?_)
      | (with_reducible refine LeO.bind ?_ (fun _ => ?_))
      | exact ih0 _ _ _ _
      | exact ih1 _ _ _ _ _ _ _
      | exact path_Name.mono _ _
      | exact strings_Split.mono _ _ _
      | exact LeO.none _
      | refine LeO.ite ?_ ?_
      | refine LeO.bind ?_ (fun _ => ?_)
    · intro y0 y1 y2 y3 y4 y5 y6
      unfold path_gone.j1
      repeat' first
      | (with_reducible exact ih0 _ _ _ _)
      | (with_reducible exact ih1 _ _ _ _ _ _ _)
      | (with_reducible exact path_Name.mono _ _)
      | (with_reducible exact strings_Split.mono _ _ _)
      | (with_reducible exact LeO.refl _)
      | (with_reducible exact LeO.none _)
      | (with_reducible refine LeO.ite ?_ ?_)
      | (with_reducible refine LeO.bind ?_ (fun _ => ?_))
      | exact ih0 _ _ _ _
      | exact ih1 _ _ _ _ _ _ _
      | exact path_Name.mono _ _
      | exact strings_Split.mono _ _ _
      | exact LeO.none _
      | refine LeO.ite ?_ ?_
      | refine LeO.bind ?_ (fun _ => ?_)
theorem path_gone.mono : ∀ a0 a1 k, LeO (path_gone.f k a0 a1) (path_gone.f (k + 1) a0 a1) := by
  intro a0 a1 k
  obtain ⟨ih0, ih1⟩ := path_gone.mono_l k
  unfold path_gone.f
  repeat' first
      | (with_reducible exact ih0 _ _ _ _)
      | (with_reducible exact ih1 _ _ _ _ _ _ _)
      | (with_reducible exact path_Name.mono _ _)
      | (with_reducible exact strings_Split.mono _ _ _)
      | (with_reducible exact LeO.refl _)
      | (with_reducible exact LeO.none _)
      | (with_reducible refine LeO.ite ?_ ?_)
      | (with_reducible refine LeO.bind ?_ (fun _ => ?_))
      | exact ih0 _ _ _ _
      | exact ih1 _ _ _ _ _ _ _
      | exact path_Name.mono _ _
      | exact strings_Split.mono _ _ _
      | exact LeO.none _
      | refine LeO.ite ?_ ?_
      | refine LeO.bind ?_ (fun _ => ?_)

/-! ### path_Join: function 21 -/
def path_Join.l0 : Nat → List ByteArray → Int → List ByteArray → Int → Int → Option (ByteArray × Int)
  | 0, _, _, _, _, _ => none
  | k + 1, x6, x7, x15, x16, x17 => if x17 < x16 then (if 0 ≤ x17 then (if x17 < (x15.length : Int) then (if x7 = 0 then ((path_gone.f k x6 (rdOf ByteArray.empty x15 x17)).bind fun bt161 => (path_Join.l0 k bt161.1 bt161.2 x15 x16 (wrap64 (x17 + 1)))) else (path_Join.l0 k x6 x7 x15 x16 (wrap64 (x17 + 1)))) else (none)) else (none)) else (if x7 = 0 then ((path_Of.f k x6).bind fun bt165 => (some (bt165.1, bt165.2))) else (some ((⟨#[]⟩ : ByteArray), x7)))
def path_Join.f (k : Nat) (a0 : ByteArray) (l1 : List ByteArray) : Option (ByteArray × Int) := (path_Names.f k a0).bind fun bt156 => (path_Join.l0 k bt156.1 bt156.2 l1 (l1.length : Int) 0)
theorem path_Join.mono_l : ∀ k, (∀ y0 y1 y2 y3 y4, LeO (path_Join.l0 k y0 y1 y2 y3 y4) (path_Join.l0 (k + 1) y0 y1 y2 y3 y4))
  | 0 => fun _ _ _ _ _ r h => by simp [path_Join.l0] at h
  | k + 1 => by
    have ih0 := path_Join.mono_l k
    · intro y0 y1 y2 y3 y4
      unfold path_Join.l0
      repeat' first
      | (with_reducible exact ih0 _ _ _ _ _)
      | (with_reducible exact path_Names.mono _ _)
      | (with_reducible exact path_Of.mono _ _)
      | (with_reducible exact path_gone.mono _ _ _)
      | (with_reducible exact LeO.refl _)
      | (with_reducible exact LeO.none _)
      | (with_reducible refine LeO.ite ?_ ?_)
      | (with_reducible refine LeO.bind ?_ (fun _ => ?_))
      | exact ih0 _ _ _ _ _
      | exact path_Names.mono _ _
      | exact path_Of.mono _ _
      | exact path_gone.mono _ _ _
      | exact LeO.none _
      | refine LeO.ite ?_ ?_
      | refine LeO.bind ?_ (fun _ => ?_)
theorem path_Join.mono : ∀ a0 a1 k, LeO (path_Join.f k a0 a1) (path_Join.f (k + 1) a0 a1) := by
  intro a0 a1 k
  have ih0 := path_Join.mono_l k
  unfold path_Join.f
  repeat' first
      | (with_reducible exact ih0 _ _ _ _ _)
      | (with_reducible exact path_Names.mono _ _)
      | (with_reducible exact path_Of.mono _ _)
      | (with_reducible exact path_gone.mono _ _ _)
      | (with_reducible exact LeO.refl _)
      | (with_reducible exact LeO.none _)
      | (with_reducible refine LeO.ite ?_ ?_)
      | (with_reducible refine LeO.bind ?_ (fun _ => ?_))
      | exact ih0 _ _ _ _ _
      | exact path_Names.mono _ _
      | exact path_Of.mono _ _
      | exact path_gone.mono _ _ _
      | exact LeO.none _
      | refine LeO.ite ?_ ?_
      | refine LeO.bind ?_ (fun _ => ?_)

/-! ### path_Clean: function 30 -/
def path_Clean.f (k : Nat) (a0 : ByteArray) : Option (ByteArray × Int) := (path_Join.f k (⟨#[]⟩ : ByteArray) (([a0] : List ByteArray))).bind fun bt170 => (some (bt170.1, bt170.2))
theorem path_Clean.mono : ∀ a0 k, LeO (path_Clean.f k a0) (path_Clean.f (k + 1) a0) := by
  intro a0 k
  unfold path_Clean.f
  repeat' first
      | (with_reducible exact path_Join.mono _ _ _)
      | (with_reducible exact LeO.refl _)
      | (with_reducible exact LeO.none _)
      | (with_reducible refine LeO.ite ?_ ?_)
      | (with_reducible refine LeO.bind ?_ (fun _ => ?_))
      | exact path_Join.mono _ _ _
      | exact LeO.none _
      | refine LeO.ite ?_ ?_
      | refine LeO.bind ?_ (fun _ => ?_)

/-! ### treadlelaw04_awake: function 20 -/
def treadlelaw04_awake.f (k : Nat)  : Option (Bool) := (path_Clean.f k (⟨#[97, 47, 47, 98, 47, 46, 46, 47, 99, 47, 46]⟩ : ByteArray)).bind fun bt172 => ((path_Clean.f k (⟨#[97, 47, 46, 46, 47, 46, 46]⟩ : ByteArray)).bind fun bt174 => (if bt172.1.toList = ([97, 47, 99] : List UInt8) then (if bt172.2 = 0 then (if bt174.2 = 43 then ((path_Name.f k (⟨#[120, 46, 121]⟩ : ByteArray)).bind fun t176 => (some (t176 == 0))) else (some false)) else (some false)) else (some false)))
theorem treadlelaw04_awake.mono : ∀ k, LeO (treadlelaw04_awake.f k ) (treadlelaw04_awake.f (k + 1) ) := by
  intro  k
  unfold treadlelaw04_awake.f
  repeat' first
      | (with_reducible exact path_Clean.mono _ _)
      | (with_reducible exact path_Name.mono _ _)
      | (with_reducible exact LeO.refl _)
      | (with_reducible exact LeO.none _)
      | (with_reducible refine LeO.ite ?_ ?_)
      | (with_reducible refine LeO.bind ?_ (fun _ => ?_))
      | exact path_Clean.mono _ _
      | exact path_Name.mono _ _
      | exact LeO.none _
      | refine LeO.ite ?_ ?_
      | refine LeO.bind ?_ (fun _ => ?_)

/-! ### treadlelaw04_PathOf: function 3 -/
def treadlelaw04_PathOf.f (k : Nat) (l0 : List ByteArray) : Option (Bool) := (treadlelaw04_twin.f l0).bind fun t177 => ((path_Of.f k t177).bind fun bt180 => ((treadleref04_Of.f k l0).bind fun bt182 => (if bt180.1.toList = bt182.1.toList then ((treadlelaw04_num.f bt180.2).bind fun t184 => (if t184 = bt182.2 then ((treadleref04_Same.f k t177 l0).bind fun t185 => (if t185 = true then ((treadlelaw04_awake.f k).bind fun t186 => (some t186)) else (some false))) else (some false))) else (some false))))
theorem treadlelaw04_PathOf.mono : ∀ a0 k, LeO (treadlelaw04_PathOf.f k a0) (treadlelaw04_PathOf.f (k + 1) a0) := by
  intro a0 k
  unfold treadlelaw04_PathOf.f
  repeat' first
      | (with_reducible exact path_Of.mono _ _)
      | (with_reducible exact treadlelaw04_awake.mono _)
      | (with_reducible exact treadleref04_Of.mono _ _)
      | (with_reducible exact treadleref04_Same.mono _ _ _)
      | (with_reducible exact LeO.refl _)
      | (with_reducible exact LeO.none _)
      | (with_reducible refine LeO.ite ?_ ?_)
      | (with_reducible refine LeO.bind ?_ (fun _ => ?_))
      | exact path_Of.mono _ _
      | exact treadlelaw04_awake.mono _
      | exact treadleref04_Of.mono _ _
      | exact treadleref04_Same.mono _ _ _
      | exact LeO.none _
      | refine LeO.ite ?_ ?_
      | refine LeO.bind ?_ (fun _ => ?_)

/-! ### treadleref04_Pieces: function 34 -/
def treadleref04_Pieces.l0 : Nat → ByteArray → List ByteArray → Int → Int → Option (List ByteArray)
  | 0, _, _, _, _ => none
  | k + 1, x0, x3, x4, x5 => if x5 ≤ (x0.size : Int) then (if x5 = (x0.size : Int) then (if 0 ≤ x4 then (if x4 ≤ x5 then (if x3.length < 8796093022208 then (treadleref04_Pieces.l0 k x0 (x3 ++ [x0.extract (x4 : Int).toNat (x5 : Int).toNat]) (wrap64 (x5 + 1)) (wrap64 (x5 + 1))) else (none)) else (none)) else (none)) else (if 0 ≤ x5 then (if x5 < (x0.size : Int) then (if (bt x0 x5) = 47 then (if 0 ≤ x4 then (if x4 ≤ x5 then (if x3.length < 8796093022208 then (treadleref04_Pieces.l0 k x0 (x3 ++ [x0.extract (x4 : Int).toNat (x5 : Int).toNat]) (wrap64 (x5 + 1)) (wrap64 (x5 + 1))) else (none)) else (none)) else (none)) else (treadleref04_Pieces.l0 k x0 x3 x4 (wrap64 (x5 + 1)))) else (none)) else (none))) else (some x3)
def treadleref04_Pieces.f (k : Nat) (a0 : ByteArray) : Option (List ByteArray) := treadleref04_Pieces.l0 k a0 ([] : List ByteArray) 0 0
theorem treadleref04_Pieces.mono_l : ∀ k, (∀ y0 y1 y2 y3, LeO (treadleref04_Pieces.l0 k y0 y1 y2 y3) (treadleref04_Pieces.l0 (k + 1) y0 y1 y2 y3))
  | 0 => fun _ _ _ _ r h => by simp [treadleref04_Pieces.l0] at h
  | k + 1 => by
    have ih0 := treadleref04_Pieces.mono_l k
    · intro y0 y1 y2 y3
      unfold treadleref04_Pieces.l0
      repeat' first
      | (with_reducible exact ih0 _ _ _ _)
      | (with_reducible exact LeO.refl _)
      | (with_reducible exact LeO.none _)
      | (with_reducible refine LeO.ite ?_ ?_)
      | (with_reducible refine LeO.bind ?_ (fun _ => ?_))
      | exact ih0 _ _ _ _
      | exact LeO.none _
      | refine LeO.ite ?_ ?_
      | refine LeO.bind ?_ (fun _ => ?_)
theorem treadleref04_Pieces.mono : ∀ a0 k, LeO (treadleref04_Pieces.f k a0) (treadleref04_Pieces.f (k + 1) a0) := by
  intro a0 k
  have ih0 := treadleref04_Pieces.mono_l k
  unfold treadleref04_Pieces.f
  repeat' first
      | (with_reducible exact ih0 _ _ _ _)
      | (with_reducible exact LeO.refl _)
      | (with_reducible exact LeO.none _)
      | (with_reducible refine LeO.ite ?_ ?_)
      | (with_reducible refine LeO.bind ?_ (fun _ => ?_))
      | exact ih0 _ _ _ _
      | exact LeO.none _
      | refine LeO.ite ?_ ?_
      | refine LeO.bind ?_ (fun _ => ?_)

/-! ### treadleref04_Names: function 23 -/
def treadleref04_Names.l0 : Nat → List ByteArray → Int → Option (List ByteArray × Bool)
  | 0, _, _ => none
  | k + 1, x4, x5 => if x5 < (x4.length : Int) then (if 0 ≤ x5 then ((treadleref04_Name.f k (rdOf ByteArray.empty x4 x5)).bind fun t197 => (if t197 = true then (treadleref04_Names.l0 k x4 (wrap64 (x5 + 1))) else (some (([] : List ByteArray), false)))) else (none)) else (if (x4.length : Int) > 32 then (some (([] : List ByteArray), false)) else (some (x4, true)))
def treadleref04_Names.f (k : Nat) (a0 : ByteArray) : Option (List ByteArray × Bool) := if a0.toList = ([] : List UInt8) then (some (([] : List ByteArray), true)) else ((treadleref04_Pieces.f k a0).bind fun t193 => (treadleref04_Names.l0 k t193 0))
theorem treadleref04_Names.mono_l : ∀ k, (∀ y0 y1, LeO (treadleref04_Names.l0 k y0 y1) (treadleref04_Names.l0 (k + 1) y0 y1))
  | 0 => fun _ _ r h => by simp [treadleref04_Names.l0] at h
  | k + 1 => by
    have ih0 := treadleref04_Names.mono_l k
    · intro y0 y1
      unfold treadleref04_Names.l0
      repeat' first
      | (with_reducible exact ih0 _ _)
      | (with_reducible exact treadleref04_Name.mono _ _)
      | (with_reducible exact treadleref04_Pieces.mono _ _)
      | (with_reducible exact LeO.refl _)
      | (with_reducible exact LeO.none _)
      | (with_reducible refine LeO.ite ?_ ?_)
      | (with_reducible refine LeO.bind ?_ (fun _ => ?_))
      | exact ih0 _ _
      | exact treadleref04_Name.mono _ _
      | exact treadleref04_Pieces.mono _ _
      | exact LeO.none _
      | refine LeO.ite ?_ ?_
      | refine LeO.bind ?_ (fun _ => ?_)
theorem treadleref04_Names.mono : ∀ a0 k, LeO (treadleref04_Names.f k a0) (treadleref04_Names.f (k + 1) a0) := by
  intro a0 k
  have ih0 := treadleref04_Names.mono_l k
  unfold treadleref04_Names.f
  repeat' first
      | (with_reducible exact ih0 _ _)
      | (with_reducible exact treadleref04_Name.mono _ _)
      | (with_reducible exact treadleref04_Pieces.mono _ _)
      | (with_reducible exact LeO.refl _)
      | (with_reducible exact LeO.none _)
      | (with_reducible refine LeO.ite ?_ ?_)
      | (with_reducible refine LeO.bind ?_ (fun _ => ?_))
      | exact ih0 _ _
      | exact treadleref04_Name.mono _ _
      | exact treadleref04_Pieces.mono _ _
      | exact LeO.none _
      | refine LeO.ite ?_ ?_
      | refine LeO.bind ?_ (fun _ => ?_)

/-! ### treadleref04_gone: function 46 -/
mutual
def treadleref04_gone.j0 : Nat → List ByteArray → ByteArray → Bool → Option (List ByteArray × Int)
  | 0, _, _, _ => none
  | k + 1, x0, x1, x19 => if x19 = true then (some (([] : List ByteArray), 41)) else (if ([] : List ByteArray).length + x0.length < 8796093022208 then ((treadleref04_Pieces.f k x1).bind fun t201 => (treadleref04_gone.l0 k (([] : List ByteArray) ++ x0) t201 0)) else (none))
def treadleref04_gone.l0 : Nat → List ByteArray → List ByteArray → Int → Option (List ByteArray × Int)
  | 0, _, _, _ => none
  | k + 1, x6, x7, x8 => if x8 < (x7.length : Int) then (if 0 ≤ x8 then (if (rdOf ByteArray.empty x7 x8).toList = ([] : List UInt8) then (treadleref04_gone.j2 k x6 x7 x8 true) else (treadleref04_gone.j2 k x6 x7 x8 ((rdOf ByteArray.empty x7 x8).toList == ([46] : List UInt8)))) else (none)) else (some (x6, 0))
def treadleref04_gone.j2 : Nat → List ByteArray → List ByteArray → Int → Bool → Option (List ByteArray × Int)
  | 0, _, _, _, _ => none
  | k + 1, x6, x7, x8, x31 => if x31 = true then (treadleref04_gone.l0 k x6 x7 (wrap64 (x8 + 1))) else (if 0 ≤ x8 then (if x8 < (x7.length : Int) then (if (rdOf ByteArray.empty x7 x8).toList = ([46, 46] : List UInt8) then (if (x6.length : Int) = 0 then (some (([] : List ByteArray), 43)) else (if 0 ≤ (wrap64 ((x6.length : Int) - 1)) then (if (wrap64 ((x6.length : Int) - 1)) ≤ (x6.length : Int) then (treadleref04_gone.l0 k (x6.take ((wrap64 ((x6.length : Int) - 1)) : Int).toNat) x7 (wrap64 (x8 + 1))) else (none)) else (none))) else ((treadleref04_Name.f k (rdOf ByteArray.empty x7 x8)).bind fun t211 => (if t211 = true then (if x6.length < 8796093022208 then (treadleref04_gone.l0 k (x6 ++ [rdOf ByteArray.empty x7 x8]) x7 (wrap64 (x8 + 1))) else (none)) else (some (([] : List ByteArray), 42))))) else (none)) else (none))
end
def treadleref04_gone.f (k : Nat) (l0 : List ByteArray) (a1 : ByteArray) : Option (List ByteArray × Int) := if (a1.size : Int) > 4096 then (some (([] : List ByteArray), 40)) else (if (a1.size : Int) > 0 then (if 0 < (a1.size : Int) then (treadleref04_gone.j0 k l0 a1 ((bt a1 0) == 47)) else (none)) else (treadleref04_gone.j0 k l0 a1 false))
theorem treadleref04_gone.mono_l : ∀ k, (∀ y0 y1 y2, LeO (treadleref04_gone.j0 k y0 y1 y2) (treadleref04_gone.j0 (k + 1) y0 y1 y2)) ∧ (∀ y0 y1 y2, LeO (treadleref04_gone.l0 k y0 y1 y2) (treadleref04_gone.l0 (k + 1) y0 y1 y2)) ∧ (∀ y0 y1 y2 y3, LeO (treadleref04_gone.j2 k y0 y1 y2 y3) (treadleref04_gone.j2 (k + 1) y0 y1 y2 y3))
  | 0 => ⟨fun _ _ _ r h => by simp [treadleref04_gone.j0] at h, fun _ _ _ r h => by simp [treadleref04_gone.l0] at h, fun _ _ _ _ r h => by simp [treadleref04_gone.j2] at h⟩
  | k + 1 => by
    obtain ⟨ih0, ih1, ih2⟩ := treadleref04_gone.mono_l k
    refine ⟨?_, ?_, ?_⟩
    · intro y0 y1 y2
      unfold treadleref04_gone.j0
      repeat' first
      | (with_reducible exact ih0 _ _ _)
      | (with_reducible exact ih1 _ _ _)
      | (with_reducible exact ih2 _ _ _ _)
      | (with_reducible exact treadleref04_Name.mono _ _)
      | (with_reducible exact treadleref04_Pieces.mono _ _)
      | (with_reducible exact LeO.refl _)
      | (with_reducible exact LeO.none _)
      | (with_reducible refine LeO.ite ?_ ?_)
      | (with_reducible refine LeO.bind ?_ (fun _ => ?_))
      | exact ih0 _ _ _
      | exact ih1 _ _ _
      | exact ih2 _ _ _ _
      | exact treadleref04_Name.mono _ _
      | exact treadleref04_Pieces.mono _ _
      | exact LeO.none _
      | refine LeO.ite ?_ ?_
      | refine LeO.bind ?_ (fun _ => ?_)
    · intro y0 y1 y2
      unfold treadleref04_gone.l0
      repeat' first
      | (with_reducible exact ih0 _ _ _)
      | (with_reducible exact ih1 _ _ _)
      | (with_reducible exact ih2 _ _ _ _)
      | (with_reducible exact treadleref04_Name.mono _ _)
      | (with_reducible exact treadleref04_Pieces.mono _ _)
      | (with_reducible exact LeO.refl _)
      | (with_reducible exact LeO.none _)
      | (with_reducible refine LeO.ite ?_ ?_)
      | (with_reducible refine LeO.bind ?_ (fun _ => ?_))
      | exact ih0 _ _ _
      | exact ih1 _ _ _
      | exact ih2 _ _ _ _
      | exact treadleref04_Name.mono _ _
      | exact treadleref04_Pieces.mono _ _
      | exact LeO.none _
      | refine LeO.ite ?_ ?_
      | refine LeO.bind ?_ (fun _ => ?_)
    · intro y0 y1 y2 y3
      unfold treadleref04_gone.j2
      repeat' first
      | (with_reducible exact ih0 _ _ _)
      | (with_reducible exact ih1 _ _ _)
      | (with_reducible exact ih2 _ _ _ _)
      | (with_reducible exact treadleref04_Name.mono _ _)
      | (with_reducible exact treadleref04_Pieces.mono _ _)
      | (with_reducible exact LeO.refl _)
      | (with_reducible exact LeO.none _)
      | (with_reducible refine LeO.ite ?_ ?_)
      | (with_reducible refine LeO.bind ?_ (fun _ => ?_))
      | exact ih0 _ _ _
      | exact ih1 _ _ _
      | exact ih2 _ _ _ _
      | exact treadleref04_Name.mono _ _
      | exact treadleref04_Pieces.mono _ _
      | exact LeO.none _
      | refine LeO.ite ?_ ?_
      | refine LeO.bind ?_ (fun _ => ?_)
theorem treadleref04_gone.mono : ∀ a0 a1 k, LeO (treadleref04_gone.f k a0 a1) (treadleref04_gone.f (k + 1) a0 a1) := by
  intro a0 a1 k
  obtain ⟨ih0, ih1, ih2⟩ := treadleref04_gone.mono_l k
  unfold treadleref04_gone.f
  repeat' first
      | (with_reducible exact ih0 _ _ _)
      | (with_reducible exact ih1 _ _ _)
      | (with_reducible exact ih2 _ _ _ _)
      | (with_reducible exact treadleref04_Name.mono _ _)
      | (with_reducible exact treadleref04_Pieces.mono _ _)
      | (with_reducible exact LeO.refl _)
      | (with_reducible exact LeO.none _)
      | (with_reducible refine LeO.ite ?_ ?_)
      | (with_reducible refine LeO.bind ?_ (fun _ => ?_))
      | exact ih0 _ _ _
      | exact ih1 _ _ _
      | exact ih2 _ _ _ _
      | exact treadleref04_Name.mono _ _
      | exact treadleref04_Pieces.mono _ _
      | exact LeO.none _
      | refine LeO.ite ?_ ?_
      | refine LeO.bind ?_ (fun _ => ?_)

/-! ### treadleref04_Join: function 22 -/
def treadleref04_Join.l0 : Nat → List ByteArray → List ByteArray → Int → Option (ByteArray × Int)
  | 0, _, _, _ => none
  | k + 1, x1, x6, x9 => if x9 < (x1.length : Int) then (if 0 ≤ x9 then ((treadleref04_gone.f k x6 (rdOf ByteArray.empty x1 x9)).bind fun bt221 => (if bt221.2 = 0 then (treadleref04_Join.l0 k x1 bt221.1 (wrap64 (x9 + 1))) else (some ((⟨#[]⟩ : ByteArray), bt221.2)))) else (none)) else (if (x6.length : Int) > 32 then (some ((⟨#[]⟩ : ByteArray), 44)) else ((treadleref04_text.f k x6).bind fun t225 => (some (t225, 0))))
def treadleref04_Join.f (k : Nat) (a0 : ByteArray) (l1 : List ByteArray) : Option (ByteArray × Int) := (treadleref04_Names.f k a0).bind fun bt216 => (if bt216.2 = true then (treadleref04_Join.l0 k l1 bt216.1 0) else (some ((⟨#[]⟩ : ByteArray), 45)))
theorem treadleref04_Join.mono_l : ∀ k, (∀ y0 y1 y2, LeO (treadleref04_Join.l0 k y0 y1 y2) (treadleref04_Join.l0 (k + 1) y0 y1 y2))
  | 0 => fun _ _ _ r h => by simp [treadleref04_Join.l0] at h
  | k + 1 => by
    have ih0 := treadleref04_Join.mono_l k
    · intro y0 y1 y2
      unfold treadleref04_Join.l0
      repeat' first
      | (with_reducible exact ih0 _ _ _)
      | (with_reducible exact treadleref04_Names.mono _ _)
      | (with_reducible exact treadleref04_gone.mono _ _ _)
      | (with_reducible exact treadleref04_text.mono _ _)
      | (with_reducible exact LeO.refl _)
      | (with_reducible exact LeO.none _)
      | (with_reducible refine LeO.ite ?_ ?_)
      | (with_reducible refine LeO.bind ?_ (fun _ => ?_))
      | exact ih0 _ _ _
      | exact treadleref04_Names.mono _ _
      | exact treadleref04_gone.mono _ _ _
      | exact treadleref04_text.mono _ _
      | exact LeO.none _
      | refine LeO.ite ?_ ?_
      | refine LeO.bind ?_ (fun _ => ?_)
theorem treadleref04_Join.mono : ∀ a0 a1 k, LeO (treadleref04_Join.f k a0 a1) (treadleref04_Join.f (k + 1) a0 a1) := by
  intro a0 a1 k
  have ih0 := treadleref04_Join.mono_l k
  unfold treadleref04_Join.f
  repeat' first
      | (with_reducible exact ih0 _ _ _)
      | (with_reducible exact treadleref04_Names.mono _ _)
      | (with_reducible exact treadleref04_gone.mono _ _ _)
      | (with_reducible exact treadleref04_text.mono _ _)
      | (with_reducible exact LeO.refl _)
      | (with_reducible exact LeO.none _)
      | (with_reducible refine LeO.ite ?_ ?_)
      | (with_reducible refine LeO.bind ?_ (fun _ => ?_))
      | exact ih0 _ _ _
      | exact treadleref04_Names.mono _ _
      | exact treadleref04_gone.mono _ _ _
      | exact treadleref04_text.mono _ _
      | exact LeO.none _
      | refine LeO.ite ?_ ?_
      | refine LeO.bind ?_ (fun _ => ?_)

/-! ### treadlelaw04_PathJoins: function 4 -/
def treadlelaw04_PathJoins.f (k : Nat) (a0 : ByteArray) (l1 : List ByteArray) : Option (Bool) := (treadlelaw04_twin.f l1).bind fun t226 => ((path_Join.f k a0 t226).bind fun bt229 => ((treadleref04_Join.f k a0 l1).bind fun bt231 => (if bt229.1.toList = bt231.1.toList then ((treadlelaw04_num.f bt229.2).bind fun t233 => (if t233 = bt231.2 then ((treadleref04_Same.f k t226 l1).bind fun t234 => (if t234 = true then ((treadlelaw04_awake.f k).bind fun t235 => (some t235)) else (some false))) else (some false))) else (some false))))
theorem treadlelaw04_PathJoins.mono : ∀ a0 a1 k, LeO (treadlelaw04_PathJoins.f k a0 a1) (treadlelaw04_PathJoins.f (k + 1) a0 a1) := by
  intro a0 a1 k
  unfold treadlelaw04_PathJoins.f
  repeat' first
      | (with_reducible exact path_Join.mono _ _ _)
      | (with_reducible exact treadlelaw04_awake.mono _)
      | (with_reducible exact treadleref04_Join.mono _ _ _)
      | (with_reducible exact treadleref04_Same.mono _ _ _)
      | (with_reducible exact LeO.refl _)
      | (with_reducible exact LeO.none _)
      | (with_reducible refine LeO.ite ?_ ?_)
      | (with_reducible refine LeO.bind ?_ (fun _ => ?_))
      | exact path_Join.mono _ _ _
      | exact treadlelaw04_awake.mono _
      | exact treadleref04_Join.mono _ _ _
      | exact treadleref04_Same.mono _ _ _
      | exact LeO.none _
      | refine LeO.ite ?_ ?_
      | refine LeO.bind ?_ (fun _ => ?_)

/-! ### treadlelaw04_PathParts: function 5 -/
def treadlelaw04_PathParts.j0 : Nat → ByteArray → Int → Int → ByteArray → Int → Bool → Option (Bool)
  | 0, _, _, _, _, _, _ => none
  | k + 1, x7, x8, x10, x11, x12, x44 => if x44 = true then (if x10 = 0 then (if x8 = x12 then ((treadlelaw04_awake.f k).bind fun t251 => (some t251)) else (some false)) else ((treadlelaw04_awake.f k).bind fun t252 => (some t252))) else (if x7.toList = x11.toList then ((treadlelaw04_awake.f k).bind fun t253 => (some t253)) else (some false))
def treadlelaw04_PathParts.f (k : Nat) (a0 : ByteArray) (a1 : ByteArray) (a2 : ByteArray) : Option (Bool) := (path_Join.f k a0 (([a1, a2] : List ByteArray))).bind fun bt239 => ((path_Join.f k a0 (([a1] : List ByteArray))).bind fun bt244 => ((path_Join.f k bt244.1 (([a2] : List ByteArray))).bind fun bt249 => (if bt239.2 = 0 then (if bt244.2 = 0 then (treadlelaw04_PathParts.j0 k bt239.1 bt239.2 bt244.2 bt249.1 bt249.2 (bt249.2 != 0)) else (treadlelaw04_PathParts.j0 k bt239.1 bt239.2 bt244.2 bt249.1 bt249.2 true)) else (treadlelaw04_PathParts.j0 k bt239.1 bt239.2 bt244.2 bt249.1 bt249.2 true))))
theorem treadlelaw04_PathParts.mono_l : ∀ k, (∀ y0 y1 y2 y3 y4 y5, LeO (treadlelaw04_PathParts.j0 k y0 y1 y2 y3 y4 y5) (treadlelaw04_PathParts.j0 (k + 1) y0 y1 y2 y3 y4 y5))
  | 0 => fun _ _ _ _ _ _ r h => by simp [treadlelaw04_PathParts.j0] at h
  | k + 1 => by
    have ih0 := treadlelaw04_PathParts.mono_l k
    · intro y0 y1 y2 y3 y4 y5
      unfold treadlelaw04_PathParts.j0
      repeat' first
      | (with_reducible exact ih0 _ _ _ _ _ _)
      | (with_reducible exact path_Join.mono _ _ _)
      | (with_reducible exact treadlelaw04_awake.mono _)
      | (with_reducible exact LeO.refl _)
      | (with_reducible exact LeO.none _)
      | (with_reducible refine LeO.ite ?_ ?_)
      | (with_reducible refine LeO.bind ?_ (fun _ => ?_))
      | exact ih0 _ _ _ _ _ _
      | exact path_Join.mono _ _ _
      | exact treadlelaw04_awake.mono _
      | exact LeO.none _
      | refine LeO.ite ?_ ?_
      | refine LeO.bind ?_ (fun _ => ?_)
theorem treadlelaw04_PathParts.mono : ∀ a0 a1 a2 k, LeO (treadlelaw04_PathParts.f k a0 a1 a2) (treadlelaw04_PathParts.f (k + 1) a0 a1 a2) := by
  intro a0 a1 a2 k
  have ih0 := treadlelaw04_PathParts.mono_l k
  unfold treadlelaw04_PathParts.f
  repeat' first
      | (with_reducible exact ih0 _ _ _ _ _ _)
      | (with_reducible exact path_Join.mono _ _ _)
      | (with_reducible exact treadlelaw04_awake.mono _)
      | (with_reducible exact LeO.refl _)
      | (with_reducible exact LeO.none _)
      | (with_reducible refine LeO.ite ?_ ?_)
      | (with_reducible refine LeO.bind ?_ (fun _ => ?_))
      | exact ih0 _ _ _ _ _ _
      | exact path_Join.mono _ _ _
      | exact treadlelaw04_awake.mono _
      | exact LeO.none _
      | refine LeO.ite ?_ ?_
      | refine LeO.bind ?_ (fun _ => ?_)

/-! ### treadlelaw04_PathOwn: function 6 -/
mutual
def treadlelaw04_PathOwn.l0 : Nat → ByteArray → List ByteArray → Int → Option (Bool)
  | 0, _, _, _ => none
  | k + 1, x0, x3, x5 => if x5 < 2 then ((path_Names.f k x0).bind fun bt259 => ((treadleref04_Same.f k bt259.1 x3).bind fun t263 => (if t263 = true then (treadlelaw04_PathOwn.l1 k x0 x3 x5 bt259.1 0) else (some false)))) else ((treadlelaw04_awake.f k).bind fun t258 => (some t258))
def treadlelaw04_PathOwn.l1 : Nat → ByteArray → List ByteArray → Int → List ByteArray → Int → Option (Bool)
  | 0, _, _, _, _, _ => none
  | k + 1, x0, x3, x5, x6, x8 => if x8 < (x6.length : Int) then (if 0 ≤ x8 then (treadlelaw04_PathOwn.l1 k x0 x3 x5 (x6.set (x8 : Int).toNat (⟨#[63]⟩ : ByteArray)) (wrap64 (x8 + 1))) else (none)) else ((some (([(⟨#[33]⟩ : ByteArray), (⟨#[33]⟩ : ByteArray), (⟨#[33]⟩ : ByteArray), (⟨#[33]⟩ : ByteArray)] : List ByteArray) : List ByteArray)).bind fun y265 => (if x6.length + y265.length < 8796093022208 then (if ((x6 ++ y265).length : Int) = (wrap64 ((x3.length : Int) + 4)) then (treadlelaw04_PathOwn.l0 k x0 x3 (wrap64 (x5 + 1))) else (some false)) else (none)))
end
def treadlelaw04_PathOwn.f (k : Nat) (a0 : ByteArray) : Option (Bool) := (treadleref04_Names.f k a0).bind fun bt254 => (treadlelaw04_PathOwn.l0 k a0 bt254.1 0)
theorem treadlelaw04_PathOwn.mono_l : ∀ k, (∀ y0 y1 y2, LeO (treadlelaw04_PathOwn.l0 k y0 y1 y2) (treadlelaw04_PathOwn.l0 (k + 1) y0 y1 y2)) ∧ (∀ y0 y1 y2 y3 y4, LeO (treadlelaw04_PathOwn.l1 k y0 y1 y2 y3 y4) (treadlelaw04_PathOwn.l1 (k + 1) y0 y1 y2 y3 y4))
  | 0 => ⟨fun _ _ _ r h => by simp [treadlelaw04_PathOwn.l0] at h, fun _ _ _ _ _ r h => by simp [treadlelaw04_PathOwn.l1] at h⟩
  | k + 1 => by
    obtain ⟨ih0, ih1⟩ := treadlelaw04_PathOwn.mono_l k
    refine ⟨?_, ?_⟩
    · intro y0 y1 y2
      unfold treadlelaw04_PathOwn.l0
      repeat' first
      | (with_reducible exact ih0 _ _ _)
      | (with_reducible exact ih1 _ _ _ _ _)
      | (with_reducible exact path_Names.mono _ _)
      | (with_reducible exact treadlelaw04_awake.mono _)
      | (with_reducible exact treadleref04_Names.mono _ _)
      | (with_reducible exact treadleref04_Same.mono _ _ _)
      | (with_reducible exact LeO.refl _)
      | (with_reducible exact LeO.none _)
      | (with_reducible refine LeO.ite ?_ ?_)
      | (with_reducible refine LeO.bind ?_ (fun _ => ?_))
      | exact ih0 _ _ _
      | exact ih1 _ _ _ _ _
      | exact path_Names.mono _ _
      | exact treadlelaw04_awake.mono _
      | exact treadleref04_Names.mono _ _
      | exact treadleref04_Same.mono _ _ _
      | exact LeO.none _
      | refine LeO.ite ?_ ?_
      | refine LeO.bind ?_ (fun _ => ?_)
    · intro y0 y1 y2 y3 y4
      unfold treadlelaw04_PathOwn.l1
      repeat' first
      | (with_reducible exact ih0 _ _ _)
      | (with_reducible exact ih1 _ _ _ _ _)
      | (with_reducible exact path_Names.mono _ _)
      | (with_reducible exact treadlelaw04_awake.mono _)
      | (with_reducible exact treadleref04_Names.mono _ _)
      | (with_reducible exact treadleref04_Same.mono _ _ _)
      | (with_reducible exact LeO.refl _)
      | (with_reducible exact LeO.none _)
      | (with_reducible refine LeO.ite ?_ ?_)
      | (with_reducible refine LeO.bind ?_ (fun _ => ?_))
      | exact ih0 _ _ _
      | exact ih1 _ _ _ _ _
      | exact path_Names.mono _ _
      | exact treadlelaw04_awake.mono _
      | exact treadleref04_Names.mono _ _
      | exact treadleref04_Same.mono _ _ _
      | exact LeO.none _
      | refine LeO.ite ?_ ?_
      | refine LeO.bind ?_ (fun _ => ?_)
theorem treadlelaw04_PathOwn.mono : ∀ a0 k, LeO (treadlelaw04_PathOwn.f k a0) (treadlelaw04_PathOwn.f (k + 1) a0) := by
  intro a0 k
  obtain ⟨ih0, ih1⟩ := treadlelaw04_PathOwn.mono_l k
  unfold treadlelaw04_PathOwn.f
  repeat' first
      | (with_reducible exact ih0 _ _ _)
      | (with_reducible exact ih1 _ _ _ _ _)
      | (with_reducible exact path_Names.mono _ _)
      | (with_reducible exact treadlelaw04_awake.mono _)
      | (with_reducible exact treadleref04_Names.mono _ _)
      | (with_reducible exact treadleref04_Same.mono _ _ _)
      | (with_reducible exact LeO.refl _)
      | (with_reducible exact LeO.none _)
      | (with_reducible refine LeO.ite ?_ ?_)
      | (with_reducible refine LeO.bind ?_ (fun _ => ?_))
      | exact ih0 _ _ _
      | exact ih1 _ _ _ _ _
      | exact path_Names.mono _ _
      | exact treadlelaw04_awake.mono _
      | exact treadleref04_Names.mono _ _
      | exact treadleref04_Same.mono _ _ _
      | exact LeO.none _
      | refine LeO.ite ?_ ?_
      | refine LeO.bind ?_ (fun _ => ?_)

/-! ### path_Check: function 27 -/
def path_Check.f (k : Nat) (a0 : ByteArray) : Option (Int) := (path_Names.f k a0).bind fun bt271 => (some bt271.2)
theorem path_Check.mono : ∀ a0 k, LeO (path_Check.f k a0) (path_Check.f (k + 1) a0) := by
  intro a0 k
  unfold path_Check.f
  repeat' first
      | (with_reducible exact path_Names.mono _ _)
      | (with_reducible exact LeO.refl _)
      | (with_reducible exact LeO.none _)
      | (with_reducible refine LeO.ite ?_ ?_)
      | (with_reducible refine LeO.bind ?_ (fun _ => ?_))
      | exact path_Names.mono _ _
      | exact LeO.none _
      | refine LeO.ite ?_ ?_
      | refine LeO.bind ?_ (fun _ => ?_)

/-! ### treadlelaw04_PathNames: function 7 -/
def treadlelaw04_PathNames.j0 : Nat → ByteArray → Int → Bool → Bool → Option (Bool)
  | 0, _, _, _, _ => none
  | k + 1, x0, x4, x6, x41 => if x41 = true then (some false) else ((path_Name.f k x0).bind fun t287 => (if t287 = 0 then (if x6 = true then ((treadlelaw04_awake.f k).bind fun t288 => (some t288)) else ((path_Check.f k x0).bind fun t289 => (if t289 = 45 then (if x4 = 45 then ((treadlelaw04_awake.f k).bind fun t290 => (some t290)) else (some false)) else (some false)))) else ((path_Name.f k x0).bind fun t291 => (if t291 = 42 then (if x6 = true then ((treadlelaw04_awake.f k).bind fun t292 => (some t292)) else ((path_Check.f k x0).bind fun t293 => (if t293 = 45 then (if x4 = 45 then ((treadlelaw04_awake.f k).bind fun t294 => (some t294)) else (some false)) else (some false)))) else (some false)))))
def treadlelaw04_PathNames.f (k : Nat) (a0 : ByteArray) : Option (Bool) := (path_Names.f k a0).bind fun bt275 => ((treadleref04_Names.f k a0).bind fun bt279 => ((path_Name.f k a0).bind fun t283 => ((treadleref04_Name.f k a0).bind fun t284 => (if ((t283 == 0) != t284) = true then (treadlelaw04_PathNames.j0 k a0 bt275.2 bt279.2 true) else ((path_Check.f k a0).bind fun t285 => (if ((t285 == 0) != bt279.2) = true then (treadlelaw04_PathNames.j0 k a0 bt275.2 bt279.2 true) else (if ((bt275.2 == 0) != bt279.2) = true then (treadlelaw04_PathNames.j0 k a0 bt275.2 bt279.2 true) else ((treadleref04_Same.f k bt275.1 bt279.1).bind fun t286 => (treadlelaw04_PathNames.j0 k a0 bt275.2 bt279.2 (!t286))))))))))
theorem treadlelaw04_PathNames.mono_l : ∀ k, (∀ y0 y1 y2 y3, LeO (treadlelaw04_PathNames.j0 k y0 y1 y2 y3) (treadlelaw04_PathNames.j0 (k + 1) y0 y1 y2 y3))
  | 0 => fun _ _ _ _ r h => by simp [treadlelaw04_PathNames.j0] at h
  | k + 1 => by
    have ih0 := treadlelaw04_PathNames.mono_l k
    · intro y0 y1 y2 y3
      unfold treadlelaw04_PathNames.j0
      repeat' first
      | (with_reducible exact ih0 _ _ _ _)
      | (with_reducible exact path_Check.mono _ _)
      | (with_reducible exact path_Name.mono _ _)
      | (with_reducible exact path_Names.mono _ _)
      | (with_reducible exact treadlelaw04_awake.mono _)
      | (with_reducible exact treadleref04_Name.mono _ _)
      | (with_reducible exact treadleref04_Names.mono _ _)
      | (with_reducible exact treadleref04_Same.mono _ _ _)
      | (with_reducible exact LeO.refl _)
      | (with_reducible exact LeO.none _)
      | (with_reducible refine LeO.ite ?_ ?_)
      | (with_reducible refine LeO.bind ?_ (fun _ => ?_))
      | exact ih0 _ _ _ _
      | exact path_Check.mono _ _
      | exact path_Name.mono _ _
      | exact path_Names.mono _ _
      | exact treadlelaw04_awake.mono _
      | exact treadleref04_Name.mono _ _
      | exact treadleref04_Names.mono _ _
      | exact treadleref04_Same.mono _ _ _
      | exact LeO.none _
      | refine LeO.ite ?_ ?_
      | refine LeO.bind ?_ (fun _ => ?_)
theorem treadlelaw04_PathNames.mono : ∀ a0 k, LeO (treadlelaw04_PathNames.f k a0) (treadlelaw04_PathNames.f (k + 1) a0) := by
  intro a0 k
  have ih0 := treadlelaw04_PathNames.mono_l k
  unfold treadlelaw04_PathNames.f
  repeat' first
      | (with_reducible exact ih0 _ _ _ _)
      | (with_reducible exact path_Check.mono _ _)
      | (with_reducible exact path_Name.mono _ _)
      | (with_reducible exact path_Names.mono _ _)
      | (with_reducible exact treadlelaw04_awake.mono _)
      | (with_reducible exact treadleref04_Name.mono _ _)
      | (with_reducible exact treadleref04_Names.mono _ _)
      | (with_reducible exact treadleref04_Same.mono _ _ _)
      | (with_reducible exact LeO.refl _)
      | (with_reducible exact LeO.none _)
      | (with_reducible refine LeO.ite ?_ ?_)
      | (with_reducible refine LeO.bind ?_ (fun _ => ?_))
      | exact ih0 _ _ _ _
      | exact path_Check.mono _ _
      | exact path_Name.mono _ _
      | exact path_Names.mono _ _
      | exact treadlelaw04_awake.mono _
      | exact treadleref04_Name.mono _ _
      | exact treadleref04_Names.mono _ _
      | exact treadleref04_Same.mono _ _ _
      | exact LeO.none _
      | refine LeO.ite ?_ ?_
      | refine LeO.bind ?_ (fun _ => ?_)

/-! ### path_shared: function 48 -/
def path_shared.l0 : Nat → List ByteArray → List ByteArray → Int → Option (Int)
  | 0, _, _, _ => none
  | k + 1, x0, x1, x5 => if x5 < (x0.length : Int) then (if x5 < (x1.length : Int) then (if 0 ≤ x5 then (if (rdOf ByteArray.empty x0 x5).toList = (rdOf ByteArray.empty x1 x5).toList then (path_shared.l0 k x0 x1 (wrap64 (x5 + 1))) else (some x5)) else (none)) else (some x5)) else (some x5)
def path_shared.f (k : Nat) (l0 : List ByteArray) (l1 : List ByteArray) : Option (Int) := path_shared.l0 k l0 l1 0
theorem path_shared.mono_l : ∀ k, (∀ y0 y1 y2, LeO (path_shared.l0 k y0 y1 y2) (path_shared.l0 (k + 1) y0 y1 y2))
  | 0 => fun _ _ _ r h => by simp [path_shared.l0] at h
  | k + 1 => by
    have ih0 := path_shared.mono_l k
    · intro y0 y1 y2
      unfold path_shared.l0
      repeat' first
      | (with_reducible exact ih0 _ _ _)
      | (with_reducible exact LeO.refl _)
      | (with_reducible exact LeO.none _)
      | (with_reducible refine LeO.ite ?_ ?_)
      | (with_reducible refine LeO.bind ?_ (fun _ => ?_))
      | exact ih0 _ _ _
      | exact LeO.none _
      | refine LeO.ite ?_ ?_
      | refine LeO.bind ?_ (fun _ => ?_)
theorem path_shared.mono : ∀ a0 a1 k, LeO (path_shared.f k a0 a1) (path_shared.f (k + 1) a0 a1) := by
  intro a0 a1 k
  have ih0 := path_shared.mono_l k
  unfold path_shared.f
  repeat' first
      | (with_reducible exact ih0 _ _ _)
      | (with_reducible exact LeO.refl _)
      | (with_reducible exact LeO.none _)
      | (with_reducible refine LeO.ite ?_ ?_)
      | (with_reducible refine LeO.bind ?_ (fun _ => ?_))
      | exact ih0 _ _ _
      | exact LeO.none _
      | refine LeO.ite ?_ ?_
      | refine LeO.bind ?_ (fun _ => ?_)

/-! ### path_Common: function 28 -/
def path_Common.l0 : Nat → List ByteArray → List ByteArray → Int → Int → Option (ByteArray × Int)
  | 0, _, _, _, _ => none
  | k + 1, x4, x9, x10, x11 => if x11 < x10 then (if 0 ≤ x11 then (if x11 < (x9.length : Int) then ((path_Names.f k (rdOf ByteArray.empty x9 x11)).bind fun bt299 => (if bt299.2 = 0 then (if x11 = 0 then ((path_shared.f k bt299.1 bt299.1).bind fun t303 => (if 0 ≤ t303 then (if t303 ≤ (bt299.1.length : Int) then (path_Common.l0 k (bt299.1.take (t303 : Int).toNat) x9 x10 (wrap64 (x11 + 1))) else (none)) else (none))) else ((path_shared.f k x4 bt299.1).bind fun t307 => (if 0 ≤ t307 then (if t307 ≤ (x4.length : Int) then (path_Common.l0 k (x4.take (t307 : Int).toNat) x9 x10 (wrap64 (x11 + 1))) else (none)) else (none)))) else (some ((⟨#[]⟩ : ByteArray), bt299.2)))) else (none)) else (none)) else ((strings_Join.f x4 (⟨#[47]⟩ : ByteArray)).bind fun t297 => (some (t297, 0)))
def path_Common.f (k : Nat) (l0 : List ByteArray) : Option (ByteArray × Int) := path_Common.l0 k ([] : List ByteArray) l0 (l0.length : Int) 0
theorem path_Common.mono_l : ∀ k, (∀ y0 y1 y2 y3, LeO (path_Common.l0 k y0 y1 y2 y3) (path_Common.l0 (k + 1) y0 y1 y2 y3))
  | 0 => fun _ _ _ _ r h => by simp [path_Common.l0] at h
  | k + 1 => by
    have ih0 := path_Common.mono_l k
    · intro y0 y1 y2 y3
      unfold path_Common.l0
      repeat' first
      | (with_reducible exact ih0 _ _ _ _)
      | (with_reducible exact path_Names.mono _ _)
      | (with_reducible exact path_shared.mono _ _ _)
      | (with_reducible exact LeO.refl _)
      | (with_reducible exact LeO.none _)
      | (with_reducible refine LeO.ite ?_ ?_)
      | (with_reducible refine LeO.bind ?_ (fun _ => ?_))
      | exact ih0 _ _ _ _
      | exact path_Names.mono _ _
      | exact path_shared.mono _ _ _
      | exact LeO.none _
      | refine LeO.ite ?_ ?_
      | refine LeO.bind ?_ (fun _ => ?_)
theorem path_Common.mono : ∀ a0 k, LeO (path_Common.f k a0) (path_Common.f (k + 1) a0) := by
  intro a0 k
  have ih0 := path_Common.mono_l k
  unfold path_Common.f
  repeat' first
      | (with_reducible exact ih0 _ _ _ _)
      | (with_reducible exact path_Names.mono _ _)
      | (with_reducible exact path_shared.mono _ _ _)
      | (with_reducible exact LeO.refl _)
      | (with_reducible exact LeO.none _)
      | (with_reducible refine LeO.ite ?_ ?_)
      | (with_reducible refine LeO.bind ?_ (fun _ => ?_))
      | exact ih0 _ _ _ _
      | exact path_Names.mono _ _
      | exact path_shared.mono _ _ _
      | exact LeO.none _
      | refine LeO.ite ?_ ?_
      | refine LeO.bind ?_ (fun _ => ?_)

/-! ### treadleref04_common: function 49 -/
def treadleref04_common.l0 : Nat → List ByteArray → List ByteArray → Int → Option (Int)
  | 0, _, _, _ => none
  | k + 1, x0, x1, x5 => if x5 < (x0.length : Int) then (if x5 < (x1.length : Int) then (if 0 ≤ x5 then (if (rdOf ByteArray.empty x0 x5).toList = (rdOf ByteArray.empty x1 x5).toList then (treadleref04_common.l0 k x0 x1 (wrap64 (x5 + 1))) else (some x5)) else (none)) else (some x5)) else (some x5)
def treadleref04_common.f (k : Nat) (l0 : List ByteArray) (l1 : List ByteArray) : Option (Int) := treadleref04_common.l0 k l0 l1 0
theorem treadleref04_common.mono_l : ∀ k, (∀ y0 y1 y2, LeO (treadleref04_common.l0 k y0 y1 y2) (treadleref04_common.l0 (k + 1) y0 y1 y2))
  | 0 => fun _ _ _ r h => by simp [treadleref04_common.l0] at h
  | k + 1 => by
    have ih0 := treadleref04_common.mono_l k
    · intro y0 y1 y2
      unfold treadleref04_common.l0
      repeat' first
      | (with_reducible exact ih0 _ _ _)
      | (with_reducible exact LeO.refl _)
      | (with_reducible exact LeO.none _)
      | (with_reducible refine LeO.ite ?_ ?_)
      | (with_reducible refine LeO.bind ?_ (fun _ => ?_))
      | exact ih0 _ _ _
      | exact LeO.none _
      | refine LeO.ite ?_ ?_
      | refine LeO.bind ?_ (fun _ => ?_)
theorem treadleref04_common.mono : ∀ a0 a1 k, LeO (treadleref04_common.f k a0 a1) (treadleref04_common.f (k + 1) a0 a1) := by
  intro a0 a1 k
  have ih0 := treadleref04_common.mono_l k
  unfold treadleref04_common.f
  repeat' first
      | (with_reducible exact ih0 _ _ _)
      | (with_reducible exact LeO.refl _)
      | (with_reducible exact LeO.none _)
      | (with_reducible refine LeO.ite ?_ ?_)
      | (with_reducible refine LeO.bind ?_ (fun _ => ?_))
      | exact ih0 _ _ _
      | exact LeO.none _
      | refine LeO.ite ?_ ?_
      | refine LeO.bind ?_ (fun _ => ?_)

/-! ### treadleref04_Common: function 29 -/
def treadleref04_Common.l0 : Nat → List ByteArray → List ByteArray → Int → Option (ByteArray × Int)
  | 0, _, _, _ => none
  | k + 1, x0, x4, x5 => if x5 < (x0.length : Int) then (if 0 ≤ x5 then ((treadleref04_Names.f k (rdOf ByteArray.empty x0 x5)).bind fun bt315 => (if bt315.2 = true then (if x5 = 0 then ((treadleref04_common.f k bt315.1 bt315.1).bind fun t319 => (if 0 ≤ t319 then (if t319 ≤ (bt315.1.length : Int) then (treadleref04_Common.l0 k x0 (bt315.1.take (t319 : Int).toNat) (wrap64 (x5 + 1))) else (none)) else (none))) else ((treadleref04_common.f k x4 bt315.1).bind fun t323 => (if 0 ≤ t323 then (if t323 ≤ (x4.length : Int) then (treadleref04_Common.l0 k x0 (x4.take (t323 : Int).toNat) (wrap64 (x5 + 1))) else (none)) else (none)))) else (some ((⟨#[]⟩ : ByteArray), 45)))) else (none)) else ((treadleref04_text.f k x4).bind fun t313 => (some (t313, 0)))
def treadleref04_Common.f (k : Nat) (l0 : List ByteArray) : Option (ByteArray × Int) := treadleref04_Common.l0 k l0 ([] : List ByteArray) 0
theorem treadleref04_Common.mono_l : ∀ k, (∀ y0 y1 y2, LeO (treadleref04_Common.l0 k y0 y1 y2) (treadleref04_Common.l0 (k + 1) y0 y1 y2))
  | 0 => fun _ _ _ r h => by simp [treadleref04_Common.l0] at h
  | k + 1 => by
    have ih0 := treadleref04_Common.mono_l k
    · intro y0 y1 y2
      unfold treadleref04_Common.l0
      repeat' first
      | (with_reducible exact ih0 _ _ _)
      | (with_reducible exact treadleref04_Names.mono _ _)
      | (with_reducible exact treadleref04_common.mono _ _ _)
      | (with_reducible exact treadleref04_text.mono _ _)
      | (with_reducible exact LeO.refl _)
      | (with_reducible exact LeO.none _)
      | (with_reducible refine LeO.ite ?_ ?_)
      | (with_reducible refine LeO.bind ?_ (fun _ => ?_))
      | exact ih0 _ _ _
      | exact treadleref04_Names.mono _ _
      | exact treadleref04_common.mono _ _ _
      | exact treadleref04_text.mono _ _
      | exact LeO.none _
      | refine LeO.ite ?_ ?_
      | refine LeO.bind ?_ (fun _ => ?_)
theorem treadleref04_Common.mono : ∀ a0 k, LeO (treadleref04_Common.f k a0) (treadleref04_Common.f (k + 1) a0) := by
  intro a0 k
  have ih0 := treadleref04_Common.mono_l k
  unfold treadleref04_Common.f
  repeat' first
      | (with_reducible exact ih0 _ _ _)
      | (with_reducible exact treadleref04_Names.mono _ _)
      | (with_reducible exact treadleref04_common.mono _ _ _)
      | (with_reducible exact treadleref04_text.mono _ _)
      | (with_reducible exact LeO.refl _)
      | (with_reducible exact LeO.none _)
      | (with_reducible refine LeO.ite ?_ ?_)
      | (with_reducible refine LeO.bind ?_ (fun _ => ?_))
      | exact ih0 _ _ _
      | exact treadleref04_Names.mono _ _
      | exact treadleref04_common.mono _ _ _
      | exact treadleref04_text.mono _ _
      | exact LeO.none _
      | refine LeO.ite ?_ ?_
      | refine LeO.bind ?_ (fun _ => ?_)

/-! ### treadlelaw04_PathCommons: function 8 -/
def treadlelaw04_PathCommons.f (k : Nat) (l0 : List ByteArray) : Option (Bool) := (treadlelaw04_twin.f l0).bind fun t327 => ((path_Common.f k t327).bind fun bt330 => ((treadleref04_Common.f k l0).bind fun bt332 => (if bt330.1.toList = bt332.1.toList then ((treadlelaw04_num.f bt330.2).bind fun t334 => (if t334 = bt332.2 then ((treadleref04_Same.f k t327 l0).bind fun t335 => (if t335 = true then ((treadlelaw04_awake.f k).bind fun t336 => (some t336)) else (some false))) else (some false))) else (some false))))
theorem treadlelaw04_PathCommons.mono : ∀ a0 k, LeO (treadlelaw04_PathCommons.f k a0) (treadlelaw04_PathCommons.f (k + 1) a0) := by
  intro a0 k
  unfold treadlelaw04_PathCommons.f
  repeat' first
      | (with_reducible exact path_Common.mono _ _)
      | (with_reducible exact treadlelaw04_awake.mono _)
      | (with_reducible exact treadleref04_Common.mono _ _)
      | (with_reducible exact treadleref04_Same.mono _ _ _)
      | (with_reducible exact LeO.refl _)
      | (with_reducible exact LeO.none _)
      | (with_reducible refine LeO.ite ?_ ?_)
      | (with_reducible refine LeO.bind ?_ (fun _ => ?_))
      | exact path_Common.mono _ _
      | exact treadlelaw04_awake.mono _
      | exact treadleref04_Common.mono _ _
      | exact treadleref04_Same.mono _ _ _
      | exact LeO.none _
      | refine LeO.ite ?_ ?_
      | refine LeO.bind ?_ (fun _ => ?_)

/-! ### treadleref04_Clean: function 31 -/
def treadleref04_Clean.f (k : Nat) (a0 : ByteArray) : Option (ByteArray × Int) := (treadleref04_Join.f k (⟨#[]⟩ : ByteArray) (([a0] : List ByteArray))).bind fun bt340 => (some (bt340.1, bt340.2))
theorem treadleref04_Clean.mono : ∀ a0 k, LeO (treadleref04_Clean.f k a0) (treadleref04_Clean.f (k + 1) a0) := by
  intro a0 k
  unfold treadleref04_Clean.f
  repeat' first
      | (with_reducible exact treadleref04_Join.mono _ _ _)
      | (with_reducible exact LeO.refl _)
      | (with_reducible exact LeO.none _)
      | (with_reducible refine LeO.ite ?_ ?_)
      | (with_reducible refine LeO.bind ?_ (fun _ => ?_))
      | exact treadleref04_Join.mono _ _ _
      | exact LeO.none _
      | refine LeO.ite ?_ ?_
      | refine LeO.bind ?_ (fun _ => ?_)

/-! ### stringslite_Cut: function 60 -/
def stringslite_Cut.f (a0 : ByteArray) (a1 : ByteArray) : Option (ByteArray × ByteArray × Bool) := (stringslite_Index.f a0 a1).bind fun t342 => (if t342 ≥ 0 then (if 0 ≤ t342 then (if t342 ≤ (a0.size : Int) then (if 0 ≤ (wrap64 (t342 + (a1.size : Int))) then (if (wrap64 (t342 + (a1.size : Int))) ≤ (a0.size : Int) then (some (a0.extract 0 (t342 : Int).toNat, a0.extract ((wrap64 (t342 + (a1.size : Int))) : Int).toNat a0.size, true)) else (none)) else (none)) else (none)) else (none)) else (some (a0, (⟨#[]⟩ : ByteArray), false)))

/-! ### strings_Cut: function 50 -/
def strings_Cut.f (a0 : ByteArray) (a1 : ByteArray) : Option (ByteArray × ByteArray × Bool) := (stringslite_Cut.f a0 a1).bind fun bt343 => (some (bt343.1, bt343.2.1, bt343.2.2))

/-! ### path_Aim: function 32 -/
def path_Aim.j0 : Nat → ByteArray → ByteArray → Bool → Option (ByteArray × Int)
  | 0, _, _, _ => none
  | k + 1, x0, x1, x26 => if x26 = true then ((path_Join.f k x0 (([x1] : List ByteArray))).bind fun bt353 => (some (bt353.1, bt353.2))) else ((path_Clean.f k x1).bind fun bt355 => (some (bt355.1, bt355.2)))
def path_Aim.f (k : Nat) (a0 : ByteArray) (a1 : ByteArray) : Option (ByteArray × Int) := (path_Check.f k a0).bind fun t346 => (if t346 = 0 then ((strings_Cut.f a1 (⟨#[47]⟩ : ByteArray)).bind fun bt347 => (if bt347.1.toList = ([46] : List UInt8) then (path_Aim.j0 k a0 a1 true) else (path_Aim.j0 k a0 a1 (bt347.1.toList == ([46, 46] : List UInt8))))) else (some ((⟨#[]⟩ : ByteArray), t346)))
theorem path_Aim.mono_l : ∀ k, (∀ y0 y1 y2, LeO (path_Aim.j0 k y0 y1 y2) (path_Aim.j0 (k + 1) y0 y1 y2))
  | 0 => fun _ _ _ r h => by simp [path_Aim.j0] at h
  | k + 1 => by
    have ih0 := path_Aim.mono_l k
    · intro y0 y1 y2
      unfold path_Aim.j0
      repeat' first
      | (with_reducible exact ih0 _ _ _)
      | (with_reducible exact path_Check.mono _ _)
      | (with_reducible exact path_Clean.mono _ _)
      | (with_reducible exact path_Join.mono _ _ _)
      | (with_reducible exact LeO.refl _)
      | (with_reducible exact LeO.none _)
      | (with_reducible refine LeO.ite ?_ ?_)
      | (with_reducible refine LeO.bind ?_ (fun _ => ?_))
      | exact ih0 _ _ _
      | exact path_Check.mono _ _
      | exact path_Clean.mono _ _
      | exact path_Join.mono _ _ _
      | exact LeO.none _
      | refine LeO.ite ?_ ?_
      | refine LeO.bind ?_ (fun _ => ?_)
theorem path_Aim.mono : ∀ a0 a1 k, LeO (path_Aim.f k a0 a1) (path_Aim.f (k + 1) a0 a1) := by
  intro a0 a1 k
  have ih0 := path_Aim.mono_l k
  unfold path_Aim.f
  repeat' first
      | (with_reducible exact ih0 _ _ _)
      | (with_reducible exact path_Check.mono _ _)
      | (with_reducible exact path_Clean.mono _ _)
      | (with_reducible exact path_Join.mono _ _ _)
      | (with_reducible exact LeO.refl _)
      | (with_reducible exact LeO.none _)
      | (with_reducible refine LeO.ite ?_ ?_)
      | (with_reducible refine LeO.bind ?_ (fun _ => ?_))
      | exact ih0 _ _ _
      | exact path_Check.mono _ _
      | exact path_Clean.mono _ _
      | exact path_Join.mono _ _ _
      | exact LeO.none _
      | refine LeO.ite ?_ ?_
      | refine LeO.bind ?_ (fun _ => ?_)

/-! ### treadleref04_Path: function 51 -/
def treadleref04_Path.f (k : Nat) (a0 : ByteArray) : Option (Bool) := (treadleref04_Names.f k a0).bind fun bt357 => (some bt357.2)
theorem treadleref04_Path.mono : ∀ a0 k, LeO (treadleref04_Path.f k a0) (treadleref04_Path.f (k + 1) a0) := by
  intro a0 k
  unfold treadleref04_Path.f
  repeat' first
      | (with_reducible exact treadleref04_Names.mono _ _)
      | (with_reducible exact LeO.refl _)
      | (with_reducible exact LeO.none _)
      | (with_reducible refine LeO.ite ?_ ?_)
      | (with_reducible refine LeO.bind ?_ (fun _ => ?_))
      | exact treadleref04_Names.mono _ _
      | exact LeO.none _
      | refine LeO.ite ?_ ?_
      | refine LeO.bind ?_ (fun _ => ?_)

/-! ### treadleref04_Aim: function 33 -/
def treadleref04_Aim.j0 : Nat → ByteArray → ByteArray → Bool → Option (ByteArray × Int)
  | 0, _, _, _ => none
  | k + 1, x0, x1, x19 => if x19 = true then ((treadleref04_Join.f k x0 (([x1] : List ByteArray))).bind fun bt369 => (some (bt369.1, bt369.2))) else ((treadleref04_Clean.f k x1).bind fun bt371 => (some (bt371.1, bt371.2)))
def treadleref04_Aim.f (k : Nat) (a0 : ByteArray) (a1 : ByteArray) : Option (ByteArray × Int) := (treadleref04_Path.f k a0).bind fun t361 => (if t361 = true then ((treadleref04_Pieces.f k a1).bind fun t362 => (if 0 < (t362.length : Int) then (if (rdOf ByteArray.empty t362 0).toList = ([46] : List UInt8) then (treadleref04_Aim.j0 k a0 a1 true) else (treadleref04_Aim.j0 k a0 a1 ((rdOf ByteArray.empty t362 0).toList == ([46, 46] : List UInt8)))) else (none))) else (some ((⟨#[]⟩ : ByteArray), 45)))
theorem treadleref04_Aim.mono_l : ∀ k, (∀ y0 y1 y2, LeO (treadleref04_Aim.j0 k y0 y1 y2) (treadleref04_Aim.j0 (k + 1) y0 y1 y2))
  | 0 => fun _ _ _ r h => by simp [treadleref04_Aim.j0] at h
  | k + 1 => by
    have ih0 := treadleref04_Aim.mono_l k
    · intro y0 y1 y2
      unfold treadleref04_Aim.j0
      repeat' first
      | (with_reducible exact ih0 _ _ _)
      | (with_reducible exact treadleref04_Clean.mono _ _)
      | (with_reducible exact treadleref04_Join.mono _ _ _)
      | (with_reducible exact treadleref04_Path.mono _ _)
      | (with_reducible exact treadleref04_Pieces.mono _ _)
      | (with_reducible exact LeO.refl _)
      | (with_reducible exact LeO.none _)
      | (with_reducible refine LeO.ite ?_ ?_)
      | (with_reducible refine LeO.bind ?_ (fun _ => ?_))
      | exact ih0 _ _ _
      | exact treadleref04_Clean.mono _ _
      | exact treadleref04_Join.mono _ _ _
      | exact treadleref04_Path.mono _ _
      | exact treadleref04_Pieces.mono _ _
      | exact LeO.none _
      | refine LeO.ite ?_ ?_
      | refine LeO.bind ?_ (fun _ => ?_)
theorem treadleref04_Aim.mono : ∀ a0 a1 k, LeO (treadleref04_Aim.f k a0 a1) (treadleref04_Aim.f (k + 1) a0 a1) := by
  intro a0 a1 k
  have ih0 := treadleref04_Aim.mono_l k
  unfold treadleref04_Aim.f
  repeat' first
      | (with_reducible exact ih0 _ _ _)
      | (with_reducible exact treadleref04_Clean.mono _ _)
      | (with_reducible exact treadleref04_Join.mono _ _ _)
      | (with_reducible exact treadleref04_Path.mono _ _)
      | (with_reducible exact treadleref04_Pieces.mono _ _)
      | (with_reducible exact LeO.refl _)
      | (with_reducible exact LeO.none _)
      | (with_reducible refine LeO.ite ?_ ?_)
      | (with_reducible refine LeO.bind ?_ (fun _ => ?_))
      | exact ih0 _ _ _
      | exact treadleref04_Clean.mono _ _
      | exact treadleref04_Join.mono _ _ _
      | exact treadleref04_Path.mono _ _
      | exact treadleref04_Pieces.mono _ _
      | exact LeO.none _
      | refine LeO.ite ?_ ?_
      | refine LeO.bind ?_ (fun _ => ?_)

/-! ### treadlelaw04_PathCleans: function 9 -/
def treadlelaw04_PathCleans.f (k : Nat) (a0 : ByteArray) (a1 : ByteArray) : Option (Bool) := (path_Clean.f k a1).bind fun bt373 => ((treadleref04_Clean.f k a1).bind fun bt375 => ((path_Aim.f k a0 a1).bind fun bt377 => ((treadleref04_Aim.f k a0 a1).bind fun bt379 => (if bt373.1.toList = bt375.1.toList then ((treadlelaw04_num.f bt373.2).bind fun t381 => (if t381 = bt375.2 then (if bt377.1.toList = bt379.1.toList then ((treadlelaw04_num.f bt377.2).bind fun t382 => (if t382 = bt379.2 then ((treadlelaw04_awake.f k).bind fun t383 => (some t383)) else (some false))) else (some false)) else (some false))) else (some false)))))
theorem treadlelaw04_PathCleans.mono : ∀ a0 a1 k, LeO (treadlelaw04_PathCleans.f k a0 a1) (treadlelaw04_PathCleans.f (k + 1) a0 a1) := by
  intro a0 a1 k
  unfold treadlelaw04_PathCleans.f
  repeat' first
      | (with_reducible exact path_Aim.mono _ _ _)
      | (with_reducible exact path_Clean.mono _ _)
      | (with_reducible exact treadlelaw04_awake.mono _)
      | (with_reducible exact treadleref04_Aim.mono _ _ _)
      | (with_reducible exact treadleref04_Clean.mono _ _)
      | (with_reducible exact LeO.refl _)
      | (with_reducible exact LeO.none _)
      | (with_reducible refine LeO.ite ?_ ?_)
      | (with_reducible refine LeO.bind ?_ (fun _ => ?_))
      | exact path_Aim.mono _ _ _
      | exact path_Clean.mono _ _
      | exact treadlelaw04_awake.mono _
      | exact treadleref04_Aim.mono _ _ _
      | exact treadleref04_Clean.mono _ _
      | exact LeO.none _
      | refine LeO.ite ?_ ?_
      | refine LeO.bind ?_ (fun _ => ?_)

/-! ### api_Errno: function 61 -/
def api_Errno.l0 : Nat → Int → List Int → Int → Int → Option (Int)
  | 0, _, _, _, _ => none
  | k + 1, x3, x6, x7, x8 => if x8 < x7 then (if 0 ≤ x8 then (if x8 < (x6.length : Int) then (if (rd x6 x8) = x3 then (api_Errno.l0 k x3 x6 x7 (wrap64 (x8 + 1))) else (some (rd x6 x8))) else (none)) else (none)) else (some x3)
def api_Errno.f (k : Nat) (l0 : List Int) : Option (Int) := api_Errno.l0 k 0 l0 (l0.length : Int) 0
theorem api_Errno.mono_l : ∀ k, (∀ y0 y1 y2 y3, LeO (api_Errno.l0 k y0 y1 y2 y3) (api_Errno.l0 (k + 1) y0 y1 y2 y3))
  | 0 => fun _ _ _ _ r h => by simp [api_Errno.l0] at h
  | k + 1 => by
    have ih0 := api_Errno.mono_l k
    · intro y0 y1 y2 y3
      unfold api_Errno.l0
      repeat' first
      | (with_reducible exact ih0 _ _ _ _)
      | (with_reducible exact LeO.refl _)
      | (with_reducible exact LeO.none _)
      | (with_reducible refine LeO.ite ?_ ?_)
      | (with_reducible refine LeO.bind ?_ (fun _ => ?_))
      | exact ih0 _ _ _ _
      | exact LeO.none _
      | refine LeO.ite ?_ ?_
      | refine LeO.bind ?_ (fun _ => ?_)
theorem api_Errno.mono : ∀ a0 k, LeO (api_Errno.f k a0) (api_Errno.f (k + 1) a0) := by
  intro a0 k
  have ih0 := api_Errno.mono_l k
  unfold api_Errno.f
  repeat' first
      | (with_reducible exact ih0 _ _ _ _)
      | (with_reducible exact LeO.refl _)
      | (with_reducible exact LeO.none _)
      | (with_reducible refine LeO.ite ?_ ?_)
      | (with_reducible refine LeO.bind ?_ (fun _ => ?_))
      | exact ih0 _ _ _ _
      | exact LeO.none _
      | refine LeO.ite ?_ ?_
      | refine LeO.bind ?_ (fun _ => ?_)

/-! ### path_both: function 52 -/
def path_both.f (k : Nat) (a0 : ByteArray) (a1 : ByteArray) : Option (List ByteArray × List ByteArray × Int) := (path_Names.f k a0).bind fun bt385 => ((path_Names.f k a1).bind fun bt389 => ((api_Errno.f k (([bt385.2, bt389.2] : List Int))).bind fun t396 => (some (bt385.1, bt389.1, t396))))
theorem path_both.mono : ∀ a0 a1 k, LeO (path_both.f k a0 a1) (path_both.f (k + 1) a0 a1) := by
  intro a0 a1 k
  unfold path_both.f
  repeat' first
      | (with_reducible exact api_Errno.mono _ _)
      | (with_reducible exact path_Names.mono _ _)
      | (with_reducible exact LeO.refl _)
      | (with_reducible exact LeO.none _)
      | (with_reducible refine LeO.ite ?_ ?_)
      | (with_reducible refine LeO.bind ?_ (fun _ => ?_))
      | exact api_Errno.mono _ _
      | exact path_Names.mono _ _
      | exact LeO.none _
      | refine LeO.ite ?_ ?_
      | refine LeO.bind ?_ (fun _ => ?_)

/-! ### slices_Equal_string_string: function 53 -/
def slices_Equal_string_string.l0 : Nat → List ByteArray → List ByteArray → Int → Int → Option (Bool)
  | 0, _, _, _, _ => none
  | k + 1, x0, x1, x12, x13 => if x13 < x12 then (if 0 ≤ x13 then (if x13 < (x0.length : Int) then (if x13 < (x1.length : Int) then (if (rdOf ByteArray.empty x0 x13).toList = (rdOf ByteArray.empty x1 x13).toList then (slices_Equal_string_string.l0 k x0 x1 x12 (wrap64 (x13 + 1))) else (some false)) else (none)) else (none)) else (none)) else (some true)
def slices_Equal_string_string.f (k : Nat) (l0 : List ByteArray) (l1 : List ByteArray) : Option (Bool) := if (l0.length : Int) = (l1.length : Int) then (slices_Equal_string_string.l0 k l0 l1 (l0.length : Int) 0) else (some false)
theorem slices_Equal_string_string.mono_l : ∀ k, (∀ y0 y1 y2 y3, LeO (slices_Equal_string_string.l0 k y0 y1 y2 y3) (slices_Equal_string_string.l0 (k + 1) y0 y1 y2 y3))
  | 0 => fun _ _ _ _ r h => by simp [slices_Equal_string_string.l0] at h
  | k + 1 => by
    have ih0 := slices_Equal_string_string.mono_l k
    · intro y0 y1 y2 y3
      unfold slices_Equal_string_string.l0
      repeat' first
      | (with_reducible exact ih0 _ _ _ _)
      | (with_reducible exact LeO.refl _)
      | (with_reducible exact LeO.none _)
      | (with_reducible refine LeO.ite ?_ ?_)
      | (with_reducible refine LeO.bind ?_ (fun _ => ?_))
      | exact ih0 _ _ _ _
      | exact LeO.none _
      | refine LeO.ite ?_ ?_
      | refine LeO.bind ?_ (fun _ => ?_)
theorem slices_Equal_string_string.mono : ∀ a0 a1 k, LeO (slices_Equal_string_string.f k a0 a1) (slices_Equal_string_string.f (k + 1) a0 a1) := by
  intro a0 a1 k
  have ih0 := slices_Equal_string_string.mono_l k
  unfold slices_Equal_string_string.f
  repeat' first
      | (with_reducible exact ih0 _ _ _ _)
      | (with_reducible exact LeO.refl _)
      | (with_reducible exact LeO.none _)
      | (with_reducible refine LeO.ite ?_ ?_)
      | (with_reducible refine LeO.bind ?_ (fun _ => ?_))
      | exact ih0 _ _ _ _
      | exact LeO.none _
      | refine LeO.ite ?_ ?_
      | refine LeO.bind ?_ (fun _ => ?_)

/-! ### path_Above: function 35 -/
def path_Above.f (k : Nat) (a0 : ByteArray) (a1 : ByteArray) : Option (Bool × Int) := (path_both.f k a0 a1).bind fun bt399 => (if bt399.2.2 = 0 then (if (bt399.1.length : Int) < (bt399.2.1.length : Int) then (if 0 ≤ (bt399.1.length : Int) then (if (bt399.1.length : Int) ≤ (bt399.2.1.length : Int) then ((slices_Equal_string_string.f k bt399.1 (bt399.2.1.take ((bt399.1.length : Int) : Int).toNat)).bind fun t410 => (some (t410, 0))) else (none)) else (none)) else (some (false, 0))) else (some (false, bt399.2.2)))
theorem path_Above.mono : ∀ a0 a1 k, LeO (path_Above.f k a0 a1) (path_Above.f (k + 1) a0 a1) := by
  intro a0 a1 k
  unfold path_Above.f
  repeat' first
      | (with_reducible exact path_both.mono _ _ _)
      | (with_reducible exact slices_Equal_string_string.mono _ _ _)
      | (with_reducible exact LeO.refl _)
      | (with_reducible exact LeO.none _)
      | (with_reducible refine LeO.ite ?_ ?_)
      | (with_reducible refine LeO.bind ?_ (fun _ => ?_))
      | exact path_both.mono _ _ _
      | exact slices_Equal_string_string.mono _ _ _
      | exact LeO.none _
      | refine LeO.ite ?_ ?_
      | refine LeO.bind ?_ (fun _ => ?_)

/-! ### treadlelaw04_PathInside: function 10 -/
mutual
def treadlelaw04_PathInside.j0 : Nat → ByteArray → List ByteArray → ByteArray → Bool → Option (Bool)
  | 0, _, _, _, _ => none
  | k + 1, x0, x1, x5, x43 => if x43 = true then (some false) else (treadlelaw04_PathInside.l0 k x0 x1 x5 0)
def treadlelaw04_PathInside.l0 : Nat → ByteArray → List ByteArray → ByteArray → Int → Option (Bool)
  | 0, _, _, _, _ => none
  | k + 1, x0, x1, x5, x9 => if x9 < (x1.length : Int) then (if 0 ≤ x9 then ((treadleref04_Pieces.f k (rdOf ByteArray.empty x1 x9)).bind fun t422 => (treadlelaw04_PathInside.l1 k x0 x1 x5 x9 t422 0)) else (none)) else ((path_Above.f k x0 x5).bind fun bt417 => (if bt417.2 = 0 then (if bt417.1 = true then ((treadlelaw04_awake.f k).bind fun t419 => (some t419)) else (if x0.toList = x5.toList then ((treadlelaw04_awake.f k).bind fun t420 => (some t420)) else (some false))) else (some false)))
def treadlelaw04_PathInside.l1 : Nat → ByteArray → List ByteArray → ByteArray → Int → List ByteArray → Int → Option (Bool)
  | 0, _, _, _, _, _, _ => none
  | k + 1, x0, x1, x5, x9, x10, x11 => if x11 < (x10.length : Int) then (if 0 ≤ x11 then (if (rdOf ByteArray.empty x10 x11).toList = ([46, 46] : List UInt8) then ((treadlelaw04_awake.f k).bind fun t426 => (some t426)) else (treadlelaw04_PathInside.l1 k x0 x1 x5 x9 x10 (wrap64 (x11 + 1)))) else (none)) else (treadlelaw04_PathInside.l0 k x0 x1 x5 (wrap64 (x9 + 1)))
end
def treadlelaw04_PathInside.f (k : Nat) (a0 : ByteArray) (l1 : List ByteArray) : Option (Bool) := (path_Join.f k a0 l1).bind fun bt411 => (if bt411.2 = 0 then ((path_Clean.f k bt411.1).bind fun bt414 => ((path_Check.f k bt411.1).bind fun t416 => (if t416 = 0 then (if bt414.2 = 0 then (treadlelaw04_PathInside.j0 k a0 l1 bt411.1 (bt414.1.toList != bt411.1.toList)) else (treadlelaw04_PathInside.j0 k a0 l1 bt411.1 true)) else (treadlelaw04_PathInside.j0 k a0 l1 bt411.1 true)))) else (if bt411.1.toList = ([] : List UInt8) then ((treadlelaw04_awake.f k).bind fun t413 => (some t413)) else (some false)))
theorem treadlelaw04_PathInside.mono_l : ∀ k, (∀ y0 y1 y2 y3, LeO (treadlelaw04_PathInside.j0 k y0 y1 y2 y3) (treadlelaw04_PathInside.j0 (k + 1) y0 y1 y2 y3)) ∧ (∀ y0 y1 y2 y3, LeO (treadlelaw04_PathInside.l0 k y0 y1 y2 y3) (treadlelaw04_PathInside.l0 (k + 1) y0 y1 y2 y3)) ∧ (∀ y0 y1 y2 y3 y4 y5, LeO (treadlelaw04_PathInside.l1 k y0 y1 y2 y3 y4 y5) (treadlelaw04_PathInside.l1 (k + 1) y0 y1 y2 y3 y4 y5))
  | 0 => ⟨fun _ _ _ _ r h => by simp [treadlelaw04_PathInside.j0] at h, fun _ _ _ _ r h => by simp [treadlelaw04_PathInside.l0] at h, fun _ _ _ _ _ _ r h => by simp [treadlelaw04_PathInside.l1] at h⟩
  | k + 1 => by
    obtain ⟨ih0, ih1, ih2⟩ := treadlelaw04_PathInside.mono_l k
    refine ⟨?_, ?_, ?_⟩
    · intro y0 y1 y2 y3
      unfold treadlelaw04_PathInside.j0
      repeat' first
      | (with_reducible exact ih0 _ _ _ _)
      | (with_reducible exact ih1 _ _ _ _)
      | (with_reducible exact ih2 _ _ _ _ _ _)
      | (with_reducible exact path_Above.mono _ _ _)
      | (with_reducible exact path_Check.mono _ _)
      | (with_reducible exact path_Clean.mono _ _)
      | (with_reducible exact path_Join.mono _ _ _)
      | (with_reducible exact treadlelaw04_awake.mono _)
      | (with_reducible exact treadleref04_Pieces.mono _ _)
      | (with_reducible exact LeO.refl _)
      | (with_reducible exact LeO.none _)
      | (with_reducible refine LeO.ite ?_ ?_)
      | (with_reducible refine LeO.bind ?_ (fun _ => ?_))
      | exact ih0 _ _ _ _
      | exact ih1 _ _ _ _
      | exact ih2 _ _ _ _ _ _
      | exact path_Above.mono _ _ _
      | exact path_Check.mono _ _
      | exact path_Clean.mono _ _
      | exact path_Join.mono _ _ _
      | exact treadlelaw04_awake.mono _
      | exact treadleref04_Pieces.mono _ _
      | exact LeO.none _
      | refine LeO.ite ?_ ?_
      | refine LeO.bind ?_ (fun _ => ?_)
    · intro y0 y1 y2 y3
      unfold treadlelaw04_PathInside.l0
      repeat' first
      | (with_reducible exact ih0 _ _ _ _)
      | (with_reducible exact ih1 _ _ _ _)
      | (with_reducible exact ih2 _ _ _ _ _ _)
      | (with_reducible exact path_Above.mono _ _ _)
      | (with_reducible exact path_Check.mono _ _)
      | (with_reducible exact path_Clean.mono _ _)
      | (with_reducible exact path_Join.mono _ _ _)
      | (with_reducible exact treadlelaw04_awake.mono _)
      | (with_reducible exact treadleref04_Pieces.mono _ _)
      | (with_reducible exact LeO.refl _)
      | (with_reducible exact LeO.none _)
      | (with_reducible refine LeO.ite ?_ ?_)
      | (with_reducible refine LeO.bind ?_ (fun _ => ?_))
      | exact ih0 _ _ _ _
      | exact ih1 _ _ _ _
      | exact ih2 _ _ _ _ _ _
      | exact path_Above.mono _ _ _
      | exact path_Check.mono _ _
      | exact path_Clean.mono _ _
      | exact path_Join.mono _ _ _
      | exact treadlelaw04_awake.mono _
      | exact treadleref04_Pieces.mono _ _
      | exact LeO.none _
      | refine LeO.ite ?_ ?_
      | refine LeO.bind ?_ (fun _ => ?_)
    · intro y0 y1 y2 y3 y4 y5
      unfold treadlelaw04_PathInside.l1
      repeat' first
      | (with_reducible exact ih0 _ _ _ _)
      | (with_reducible exact ih1 _ _ _ _)
      | (with_reducible exact ih2 _ _ _ _ _ _)
      | (with_reducible exact path_Above.mono _ _ _)
      | (with_reducible exact path_Check.mono _ _)
      | (with_reducible exact path_Clean.mono _ _)
      | (with_reducible exact path_Join.mono _ _ _)
      | (with_reducible exact treadlelaw04_awake.mono _)
      | (with_reducible exact treadleref04_Pieces.mono _ _)
      | (with_reducible exact LeO.refl _)
      | (with_reducible exact LeO.none _)
      | (with_reducible refine LeO.ite ?_ ?_)
      | (with_reducible refine LeO.bind ?_ (fun _ => ?_))
      | exact ih0 _ _ _ _
      | exact ih1 _ _ _ _
      | exact ih2 _ _ _ _ _ _
      | exact path_Above.mono _ _ _
      | exact path_Check.mono _ _
      | exact path_Clean.mono _ _
      | exact path_Join.mono _ _ _
      | exact treadlelaw04_awake.mono _
      | exact treadleref04_Pieces.mono _ _
      | exact LeO.none _
      | refine LeO.ite ?_ ?_
      | refine LeO.bind ?_ (fun _ => ?_)
theorem treadlelaw04_PathInside.mono : ∀ a0 a1 k, LeO (treadlelaw04_PathInside.f k a0 a1) (treadlelaw04_PathInside.f (k + 1) a0 a1) := by
  intro a0 a1 k
  obtain ⟨ih0, ih1, ih2⟩ := treadlelaw04_PathInside.mono_l k
  unfold treadlelaw04_PathInside.f
  repeat' first
      | (with_reducible exact ih0 _ _ _ _)
      | (with_reducible exact ih1 _ _ _ _)
      | (with_reducible exact ih2 _ _ _ _ _ _)
      | (with_reducible exact path_Above.mono _ _ _)
      | (with_reducible exact path_Check.mono _ _)
      | (with_reducible exact path_Clean.mono _ _)
      | (with_reducible exact path_Join.mono _ _ _)
      | (with_reducible exact treadlelaw04_awake.mono _)
      | (with_reducible exact treadleref04_Pieces.mono _ _)
      | (with_reducible exact LeO.refl _)
      | (with_reducible exact LeO.none _)
      | (with_reducible refine LeO.ite ?_ ?_)
      | (with_reducible refine LeO.bind ?_ (fun _ => ?_))
      | exact ih0 _ _ _ _
      | exact ih1 _ _ _ _
      | exact ih2 _ _ _ _ _ _
      | exact path_Above.mono _ _ _
      | exact path_Check.mono _ _
      | exact path_Clean.mono _ _
      | exact path_Join.mono _ _ _
      | exact treadlelaw04_awake.mono _
      | exact treadleref04_Pieces.mono _ _
      | exact LeO.none _
      | refine LeO.ite ?_ ?_
      | refine LeO.bind ?_ (fun _ => ?_)

/-! ### path_Rel: function 36 -/
def path_Rel.l0 : Nat → List ByteArray → Int → List ByteArray → Int → Int → Option (ByteArray × Int)
  | 0, _, _, _, _, _ => none
  | k + 1, x7, x9, x10, x27, x28 => if x28 < x27 then (if x10.length < 8796093022208 then (path_Rel.l0 k x7 x9 (x10 ++ [(⟨#[46, 46]⟩ : ByteArray)]) x27 (wrap64 (x28 + 1))) else (none)) else (if 0 ≤ x9 then (if x9 ≤ (x7.length : Int) then ((some (x7.drop (x9 : Int).toNat : List ByteArray)).bind fun y442 => (if x10.length + y442.length < 8796093022208 then ((some (x10 ++ y442 : List ByteArray)).bind fun y446 => (if (y446.length : Int) = 0 then (some ((⟨#[46]⟩ : ByteArray), 0)) else ((strings_Join.f y446 (⟨#[47]⟩ : ByteArray)).bind fun t449 => (some (t449, 0))))) else (none))) else (none)) else (none))
def path_Rel.f (k : Nat) (a0 : ByteArray) (a1 : ByteArray) : Option (ByteArray × Int) := (path_both.f k a0 a1).bind fun bt427 => (if bt427.2.2 = 0 then ((path_shared.f k bt427.1 bt427.2.1).bind fun t434 => (if 0 ≤ t434 then (if t434 ≤ (bt427.1.length : Int) then (path_Rel.l0 k bt427.2.1 t434 ([] : List ByteArray) ((bt427.1.drop (t434 : Int).toNat).length : Int) 0) else (none)) else (none))) else (some ((⟨#[]⟩ : ByteArray), bt427.2.2)))
theorem path_Rel.mono_l : ∀ k, (∀ y0 y1 y2 y3 y4, LeO (path_Rel.l0 k y0 y1 y2 y3 y4) (path_Rel.l0 (k + 1) y0 y1 y2 y3 y4))
  | 0 => fun _ _ _ _ _ r h => by simp [path_Rel.l0] at h
  | k + 1 => by
    have ih0 := path_Rel.mono_l k
    · intro y0 y1 y2 y3 y4
      unfold path_Rel.l0
      repeat' first
      | (with_reducible exact ih0 _ _ _ _ _)
      | (with_reducible exact path_both.mono _ _ _)
      | (with_reducible exact path_shared.mono _ _ _)
      | (with_reducible exact LeO.refl _)
      | (with_reducible exact LeO.none _)
      | (with_reducible refine LeO.ite ?_ ?_)
      | (with_reducible refine LeO.bind ?_ (fun _ => ?_))
      | exact ih0 _ _ _ _ _
      | exact path_both.mono _ _ _
      | exact path_shared.mono _ _ _
      | exact LeO.none _
      | refine LeO.ite ?_ ?_
      | refine LeO.bind ?_ (fun _ => ?_)
theorem path_Rel.mono : ∀ a0 a1 k, LeO (path_Rel.f k a0 a1) (path_Rel.f (k + 1) a0 a1) := by
  intro a0 a1 k
  have ih0 := path_Rel.mono_l k
  unfold path_Rel.f
  repeat' first
      | (with_reducible exact ih0 _ _ _ _ _)
      | (with_reducible exact path_both.mono _ _ _)
      | (with_reducible exact path_shared.mono _ _ _)
      | (with_reducible exact LeO.refl _)
      | (with_reducible exact LeO.none _)
      | (with_reducible refine LeO.ite ?_ ?_)
      | (with_reducible refine LeO.bind ?_ (fun _ => ?_))
      | exact ih0 _ _ _ _ _
      | exact path_both.mono _ _ _
      | exact path_shared.mono _ _ _
      | exact LeO.none _
      | refine LeO.ite ?_ ?_
      | refine LeO.bind ?_ (fun _ => ?_)

/-! ### treadlelaw04_PathBack: function 11 -/
def treadlelaw04_PathBack.f (k : Nat) (a0 : ByteArray) (a1 : ByteArray) : Option (Bool) := (path_Rel.f k a0 a1).bind fun bt450 => (if bt450.2 = 0 then ((path_Join.f k a0 (([bt450.1] : List ByteArray))).bind fun bt455 => (if bt455.2 = 0 then (if bt455.1.toList = a1.toList then ((treadlelaw04_awake.f k).bind fun t457 => (some t457)) else (some false)) else (some false))) else ((path_Check.f k a0).bind fun t458 => (if t458 = 0 then ((path_Check.f k a1).bind fun t459 => (if t459 = 0 then (some false) else ((treadlelaw04_awake.f k).bind fun t460 => (some t460)))) else ((treadlelaw04_awake.f k).bind fun t461 => (some t461)))))
theorem treadlelaw04_PathBack.mono : ∀ a0 a1 k, LeO (treadlelaw04_PathBack.f k a0 a1) (treadlelaw04_PathBack.f (k + 1) a0 a1) := by
  intro a0 a1 k
  unfold treadlelaw04_PathBack.f
  repeat' first
      | (with_reducible exact path_Check.mono _ _)
      | (with_reducible exact path_Join.mono _ _ _)
      | (with_reducible exact path_Rel.mono _ _ _)
      | (with_reducible exact treadlelaw04_awake.mono _)
      | (with_reducible exact LeO.refl _)
      | (with_reducible exact LeO.none _)
      | (with_reducible refine LeO.ite ?_ ?_)
      | (with_reducible refine LeO.bind ?_ (fun _ => ?_))
      | exact path_Check.mono _ _
      | exact path_Join.mono _ _ _
      | exact path_Rel.mono _ _ _
      | exact treadlelaw04_awake.mono _
      | exact LeO.none _
      | refine LeO.ite ?_ ?_
      | refine LeO.bind ?_ (fun _ => ?_)

/-! ### path_Split: function 37 -/
def path_Split.f (k : Nat) (a0 : ByteArray) : Option (ByteArray × ByteArray × Int) := (path_Names.f k a0).bind fun bt462 => (if bt462.2 = 0 then (if (wrap64 ((bt462.1.length : Int) - 1)) < 0 then (some ((⟨#[]⟩ : ByteArray), (⟨#[]⟩ : ByteArray), 46)) else (if 0 ≤ (wrap64 ((bt462.1.length : Int) - 1)) then (if (wrap64 ((bt462.1.length : Int) - 1)) ≤ (bt462.1.length : Int) then ((strings_Join.f (bt462.1.take ((wrap64 ((bt462.1.length : Int) - 1)) : Int).toNat) (⟨#[47]⟩ : ByteArray)).bind fun t470 => (if (wrap64 ((bt462.1.length : Int) - 1)) < (bt462.1.length : Int) then (some (t470, rdOf ByteArray.empty bt462.1 (wrap64 ((bt462.1.length : Int) - 1)), 0)) else (none))) else (none)) else (none))) else (some ((⟨#[]⟩ : ByteArray), (⟨#[]⟩ : ByteArray), bt462.2)))
theorem path_Split.mono : ∀ a0 k, LeO (path_Split.f k a0) (path_Split.f (k + 1) a0) := by
  intro a0 k
  unfold path_Split.f
  repeat' first
      | (with_reducible exact path_Names.mono _ _)
      | (with_reducible exact LeO.refl _)
      | (with_reducible exact LeO.none _)
      | (with_reducible refine LeO.ite ?_ ?_)
      | (with_reducible refine LeO.bind ?_ (fun _ => ?_))
      | exact path_Names.mono _ _
      | exact LeO.none _
      | refine LeO.ite ?_ ?_
      | refine LeO.bind ?_ (fun _ => ?_)

/-! ### treadlelaw04_PathSplits: function 12 -/
def treadlelaw04_PathSplits.j0 : Nat → ByteArray → List ByteArray → ByteArray → ByteArray → Int → Bool → Option (Bool)
  | 0, _, _, _, _, _, _ => none
  | k + 1, x0, x3, x7, x8, x9, x47 => if x47 = true then (some false) else (if x9 = 0 then ((path_Join.f k x7 (([x8] : List ByteArray))).bind fun bt486 => ((path_Above.f k x7 x0).bind fun bt488 => (if bt486.2 = 0 then (if bt486.1.toList = x0.toList then (if bt488.2 = 0 then (if bt488.1 = true then ((path_Name.f k x8).bind fun t490 => (if t490 = 0 then ((treadlelaw04_awake.f k).bind fun t491 => (some t491)) else (some false))) else (some false)) else (some false)) else (some false)) else (some false)))) else (if x9 = 46 then (if (x3.length : Int) = 0 then ((treadlelaw04_awake.f k).bind fun t482 => (some t482)) else (some false)) else (some false)))
def treadlelaw04_PathSplits.f (k : Nat) (a0 : ByteArray) : Option (Bool) := (path_Names.f k a0).bind fun bt472 => (if bt472.2 = 0 then ((path_Of.f k bt472.1).bind fun bt477 => ((path_Split.f k a0).bind fun bt479 => (if bt477.2 = 0 then (if bt477.1.toList = a0.toList then (treadlelaw04_PathSplits.j0 k a0 bt472.1 bt479.1 bt479.2.1 bt479.2.2 ((bt479.2.2 == 0) != (decide ((a0.size : Int) > 0)))) else (treadlelaw04_PathSplits.j0 k a0 bt472.1 bt479.1 bt479.2.1 bt479.2.2 true)) else (treadlelaw04_PathSplits.j0 k a0 bt472.1 bt479.1 bt479.2.1 bt479.2.2 true)))) else ((treadlelaw04_awake.f k).bind fun t476 => (some t476)))
theorem treadlelaw04_PathSplits.mono_l : ∀ k, (∀ y0 y1 y2 y3 y4 y5, LeO (treadlelaw04_PathSplits.j0 k y0 y1 y2 y3 y4 y5) (treadlelaw04_PathSplits.j0 (k + 1) y0 y1 y2 y3 y4 y5))
  | 0 => fun _ _ _ _ _ _ r h => by simp [treadlelaw04_PathSplits.j0] at h
  | k + 1 => by
    have ih0 := treadlelaw04_PathSplits.mono_l k
    · intro y0 y1 y2 y3 y4 y5
      unfold treadlelaw04_PathSplits.j0
      repeat' first
      | (with_reducible exact ih0 _ _ _ _ _ _)
      | (with_reducible exact path_Above.mono _ _ _)
      | (with_reducible exact path_Join.mono _ _ _)
      | (with_reducible exact path_Name.mono _ _)
      | (with_reducible exact path_Names.mono _ _)
      | (with_reducible exact path_Of.mono _ _)
      | (with_reducible exact path_Split.mono _ _)
      | (with_reducible exact treadlelaw04_awake.mono _)
      | (with_reducible exact LeO.refl _)
      | (with_reducible exact LeO.none _)
      | (with_reducible refine LeO.ite ?_ ?_)
      | (with_reducible refine LeO.bind ?_ (fun _ => ?_))
      | exact ih0 _ _ _ _ _ _
      | exact path_Above.mono _ _ _
      | exact path_Join.mono _ _ _
      | exact path_Name.mono _ _
      | exact path_Names.mono _ _
      | exact path_Of.mono _ _
      | exact path_Split.mono _ _
      | exact treadlelaw04_awake.mono _
      | exact LeO.none _
      | refine LeO.ite ?_ ?_
      | refine LeO.bind ?_ (fun _ => ?_)
theorem treadlelaw04_PathSplits.mono : ∀ a0 k, LeO (treadlelaw04_PathSplits.f k a0) (treadlelaw04_PathSplits.f (k + 1) a0) := by
  intro a0 k
  have ih0 := treadlelaw04_PathSplits.mono_l k
  unfold treadlelaw04_PathSplits.f
  repeat' first
      | (with_reducible exact ih0 _ _ _ _ _ _)
      | (with_reducible exact path_Above.mono _ _ _)
      | (with_reducible exact path_Join.mono _ _ _)
      | (with_reducible exact path_Name.mono _ _)
      | (with_reducible exact path_Names.mono _ _)
      | (with_reducible exact path_Of.mono _ _)
      | (with_reducible exact path_Split.mono _ _)
      | (with_reducible exact treadlelaw04_awake.mono _)
      | (with_reducible exact LeO.refl _)
      | (with_reducible exact LeO.none _)
      | (with_reducible refine LeO.ite ?_ ?_)
      | (with_reducible refine LeO.bind ?_ (fun _ => ?_))
      | exact ih0 _ _ _ _ _ _
      | exact path_Above.mono _ _ _
      | exact path_Join.mono _ _ _
      | exact path_Name.mono _ _
      | exact path_Names.mono _ _
      | exact path_Of.mono _ _
      | exact path_Split.mono _ _
      | exact treadlelaw04_awake.mono _
      | exact LeO.none _
      | refine LeO.ite ?_ ?_
      | refine LeO.bind ?_ (fun _ => ?_)

/-! ### cmp_Compare_string: function 62 -/
def cmp_Compare_string.f (a0 : ByteArray) (a1 : ByteArray) : Option (Int) := some (if a0.toList = a1.toList then 0 else if Op.bytesLess a0.toList a1.toList = true then -1 else 1)

/-! ### slices_Compare_string_string: function 54 -/
def slices_Compare_string_string.l0 : Nat → List ByteArray → List ByteArray → List ByteArray → Int → Int → Option (Int)
  | 0, _, _, _, _, _ => none
  | k + 1, x0, x1, x9, x10, x11 => if x11 < x10 then (if 0 ≤ x11 then (if x11 < (x9.length : Int) then (if x11 ≥ (x1.length : Int) then (some 1) else (if x11 < (x1.length : Int) then ((cmp_Compare_string.f (rdOf ByteArray.empty x9 x11) (rdOf ByteArray.empty x1 x11)).bind fun t494 => (if t494 = 0 then (slices_Compare_string_string.l0 k x0 x1 x9 x10 (wrap64 (x11 + 1))) else (some t494))) else (none))) else (none)) else (none)) else (if (x0.length : Int) < (x1.length : Int) then (some (-1)) else (some 0))
def slices_Compare_string_string.f (k : Nat) (l0 : List ByteArray) (l1 : List ByteArray) : Option (Int) := slices_Compare_string_string.l0 k l0 l1 l0 (l0.length : Int) 0
theorem slices_Compare_string_string.mono_l : ∀ k, (∀ y0 y1 y2 y3 y4, LeO (slices_Compare_string_string.l0 k y0 y1 y2 y3 y4) (slices_Compare_string_string.l0 (k + 1) y0 y1 y2 y3 y4))
  | 0 => fun _ _ _ _ _ r h => by simp [slices_Compare_string_string.l0] at h
  | k + 1 => by
    have ih0 := slices_Compare_string_string.mono_l k
    · intro y0 y1 y2 y3 y4
      unfold slices_Compare_string_string.l0
      repeat' first
      | (with_reducible exact ih0 _ _ _ _ _)
      | (with_reducible exact LeO.refl _)
      | (with_reducible exact LeO.none _)
      | (with_reducible refine LeO.ite ?_ ?_)
      | (with_reducible refine LeO.bind ?_ (fun _ => ?_))
      | exact ih0 _ _ _ _ _
      | exact LeO.none _
      | refine LeO.ite ?_ ?_
      | refine LeO.bind ?_ (fun _ => ?_)
theorem slices_Compare_string_string.mono : ∀ a0 a1 k, LeO (slices_Compare_string_string.f k a0 a1) (slices_Compare_string_string.f (k + 1) a0 a1) := by
  intro a0 a1 k
  have ih0 := slices_Compare_string_string.mono_l k
  unfold slices_Compare_string_string.f
  repeat' first
      | (with_reducible exact ih0 _ _ _ _ _)
      | (with_reducible exact LeO.refl _)
      | (with_reducible exact LeO.none _)
      | (with_reducible refine LeO.ite ?_ ?_)
      | (with_reducible refine LeO.bind ?_ (fun _ => ?_))
      | exact ih0 _ _ _ _ _
      | exact LeO.none _
      | refine LeO.ite ?_ ?_
      | refine LeO.bind ?_ (fun _ => ?_)

/-! ### path_Compare: function 38 -/
def path_Compare.f (k : Nat) (a0 : ByteArray) (a1 : ByteArray) : Option (Int × Int) := (path_both.f k a0 a1).bind fun bt495 => (if bt495.2.2 = 0 then ((slices_Compare_string_string.f k bt495.1 bt495.2.1).bind fun t502 => (some (t502, 0))) else (some (0, bt495.2.2)))
theorem path_Compare.mono : ∀ a0 a1 k, LeO (path_Compare.f k a0 a1) (path_Compare.f (k + 1) a0 a1) := by
  intro a0 a1 k
  unfold path_Compare.f
  repeat' first
      | (with_reducible exact path_both.mono _ _ _)
      | (with_reducible exact slices_Compare_string_string.mono _ _ _)
      | (with_reducible exact LeO.refl _)
      | (with_reducible exact LeO.none _)
      | (with_reducible refine LeO.ite ?_ ?_)
      | (with_reducible refine LeO.bind ?_ (fun _ => ?_))
      | exact path_both.mono _ _ _
      | exact slices_Compare_string_string.mono _ _ _
      | exact LeO.none _
      | refine LeO.ite ?_ ?_
      | refine LeO.bind ?_ (fun _ => ?_)

/-! ### treadlelaw04_PathOrder: function 13 -/
mutual
def treadlelaw04_PathOrder.j0 : Nat → ByteArray → ByteArray → ByteArray → Int → Int → Int → Int → Bool → Option (Bool)
  | 0, _, _, _, _, _, _, _, _ => none
  | k + 1, x0, x1, x2, x7, x9, x11, x13, x56 => if x56 = true then ((path_Check.f k x0).bind fun t511 => (if t511 = 0 then ((path_Check.f k x1).bind fun t512 => (if t512 = 0 then ((path_Check.f k x2).bind fun t513 => (if t513 = 0 then (some false) else ((treadlelaw04_awake.f k).bind fun t514 => (some t514)))) else ((treadlelaw04_awake.f k).bind fun t515 => (some t515)))) else ((treadlelaw04_awake.f k).bind fun t516 => (some t516)))) else (if x7 = (wrap64 (-x13)) then (if ((x7 == 0) != (x0.toList == x1.toList)) = true then (treadlelaw04_PathOrder.j1 k x0 x1 x2 x7 x9 true) else (if x7 ≤ 0 then (if x9 ≤ 0 then (treadlelaw04_PathOrder.j1 k x0 x1 x2 x7 x9 (decide (x11 > 0))) else (treadlelaw04_PathOrder.j1 k x0 x1 x2 x7 x9 false)) else (treadlelaw04_PathOrder.j1 k x0 x1 x2 x7 x9 false))) else (treadlelaw04_PathOrder.j1 k x0 x1 x2 x7 x9 true))
def treadlelaw04_PathOrder.j1 : Nat → ByteArray → ByteArray → ByteArray → Int → Int → Bool → Option (Bool)
  | 0, _, _, _, _, _, _ => none
  | k + 1, x0, x1, x2, x7, x9, x96 => if x96 = true then (some false) else ((path_Above.f k x0 x2).bind fun bt517 => ((path_Above.f k x0 x1).bind fun bt519 => (if bt517.1 = true then (if x7 < 0 then (if x9 < 0 then (if bt519.1 = true then (if x7 = (-1) then ((treadlelaw04_awake.f k).bind fun t521 => (some t521)) else (some false)) else (some false)) else (if bt519.1 = true then (if x7 = (-1) then ((treadlelaw04_awake.f k).bind fun t522 => (some t522)) else (some false)) else ((treadlelaw04_awake.f k).bind fun t523 => (some t523)))) else (if bt519.1 = true then (if x7 = (-1) then ((treadlelaw04_awake.f k).bind fun t524 => (some t524)) else (some false)) else ((treadlelaw04_awake.f k).bind fun t525 => (some t525)))) else (if bt519.1 = true then (if x7 = (-1) then ((treadlelaw04_awake.f k).bind fun t526 => (some t526)) else (some false)) else ((treadlelaw04_awake.f k).bind fun t527 => (some t527))))))
end
def treadlelaw04_PathOrder.f (k : Nat) (a0 : ByteArray) (a1 : ByteArray) (a2 : ByteArray) : Option (Bool) := (path_Compare.f k a0 a1).bind fun bt503 => ((path_Compare.f k a1 a2).bind fun bt505 => ((path_Compare.f k a0 a2).bind fun bt507 => ((path_Compare.f k a1 a0).bind fun bt509 => (if bt503.2 = 0 then (if bt505.2 = 0 then (if bt507.2 = 0 then (treadlelaw04_PathOrder.j0 k a0 a1 a2 bt503.1 bt505.1 bt507.1 bt509.1 (bt509.2 != 0)) else (treadlelaw04_PathOrder.j0 k a0 a1 a2 bt503.1 bt505.1 bt507.1 bt509.1 true)) else (treadlelaw04_PathOrder.j0 k a0 a1 a2 bt503.1 bt505.1 bt507.1 bt509.1 true)) else (treadlelaw04_PathOrder.j0 k a0 a1 a2 bt503.1 bt505.1 bt507.1 bt509.1 true)))))
theorem treadlelaw04_PathOrder.mono_l : ∀ k, (∀ y0 y1 y2 y3 y4 y5 y6 y7, LeO (treadlelaw04_PathOrder.j0 k y0 y1 y2 y3 y4 y5 y6 y7) (treadlelaw04_PathOrder.j0 (k + 1) y0 y1 y2 y3 y4 y5 y6 y7)) ∧ (∀ y0 y1 y2 y3 y4 y5, LeO (treadlelaw04_PathOrder.j1 k y0 y1 y2 y3 y4 y5) (treadlelaw04_PathOrder.j1 (k + 1) y0 y1 y2 y3 y4 y5))
  | 0 => ⟨fun _ _ _ _ _ _ _ _ r h => by simp [treadlelaw04_PathOrder.j0] at h, fun _ _ _ _ _ _ r h => by simp [treadlelaw04_PathOrder.j1] at h⟩
  | k + 1 => by
    obtain ⟨ih0, ih1⟩ := treadlelaw04_PathOrder.mono_l k
    refine ⟨?_, ?_⟩
    · intro y0 y1 y2 y3 y4 y5 y6 y7
      unfold treadlelaw04_PathOrder.j0
      repeat' first
      | (with_reducible exact ih0 _ _ _ _ _ _ _ _)
      | (with_reducible exact ih1 _ _ _ _ _ _)
      | (with_reducible exact path_Above.mono _ _ _)
      | (with_reducible exact path_Check.mono _ _)
      | (with_reducible exact path_Compare.mono _ _ _)
      | (with_reducible exact treadlelaw04_awake.mono _)
      | (with_reducible exact LeO.refl _)
      | (with_reducible exact LeO.none _)
      | (with_reducible refine LeO.ite ?_ ?_)
      | (with_reducible refine LeO.bind ?_ (fun _ => ?_))
      | exact ih0 _ _ _ _ _ _ _ _
      | exact ih1 _ _ _ _ _ _
      | exact path_Above.mono _ _ _
      | exact path_Check.mono _ _
      | exact path_Compare.mono _ _ _
      | exact treadlelaw04_awake.mono _
      | exact LeO.none _
      | refine LeO.ite ?_ ?_
      | refine LeO.bind ?_ (fun _ => ?_)
    · intro y0 y1 y2 y3 y4 y5
      unfold treadlelaw04_PathOrder.j1
      repeat' first
      | (with_reducible exact ih0 _ _ _ _ _ _ _ _)
      | (with_reducible exact ih1 _ _ _ _ _ _)
      | (with_reducible exact path_Above.mono _ _ _)
      | (with_reducible exact path_Check.mono _ _)
      | (with_reducible exact path_Compare.mono _ _ _)
      | (with_reducible exact treadlelaw04_awake.mono _)
      | (with_reducible exact LeO.refl _)
      | (with_reducible exact LeO.none _)
      | (with_reducible refine LeO.ite ?_ ?_)
      | (with_reducible refine LeO.bind ?_ (fun _ => ?_))
      | exact ih0 _ _ _ _ _ _ _ _
      | exact ih1 _ _ _ _ _ _
      | exact path_Above.mono _ _ _
      | exact path_Check.mono _ _
      | exact path_Compare.mono _ _ _
      | exact treadlelaw04_awake.mono _
      | exact LeO.none _
      | refine LeO.ite ?_ ?_
      | refine LeO.bind ?_ (fun _ => ?_)
theorem treadlelaw04_PathOrder.mono : ∀ a0 a1 a2 k, LeO (treadlelaw04_PathOrder.f k a0 a1 a2) (treadlelaw04_PathOrder.f (k + 1) a0 a1 a2) := by
  intro a0 a1 a2 k
  obtain ⟨ih0, ih1⟩ := treadlelaw04_PathOrder.mono_l k
  unfold treadlelaw04_PathOrder.f
  repeat' first
      | (with_reducible exact ih0 _ _ _ _ _ _ _ _)
      | (with_reducible exact ih1 _ _ _ _ _ _)
      | (with_reducible exact path_Above.mono _ _ _)
      | (with_reducible exact path_Check.mono _ _)
      | (with_reducible exact path_Compare.mono _ _ _)
      | (with_reducible exact treadlelaw04_awake.mono _)
      | (with_reducible exact LeO.refl _)
      | (with_reducible exact LeO.none _)
      | (with_reducible refine LeO.ite ?_ ?_)
      | (with_reducible refine LeO.bind ?_ (fun _ => ?_))
      | exact ih0 _ _ _ _ _ _ _ _
      | exact ih1 _ _ _ _ _ _
      | exact path_Above.mono _ _ _
      | exact path_Check.mono _ _
      | exact path_Compare.mono _ _ _
      | exact treadlelaw04_awake.mono _
      | exact LeO.none _
      | refine LeO.ite ?_ ?_
      | refine LeO.bind ?_ (fun _ => ?_)

/-! ### treadleref04_Above: function 39 -/
def treadleref04_Above.f (k : Nat) (a0 : ByteArray) (a1 : ByteArray) : Option (Bool × Int) := (treadleref04_Names.f k a0).bind fun bt528 => ((treadleref04_Names.f k a1).bind fun bt532 => (if bt528.2 = true then (if bt532.2 = true then ((treadleref04_common.f k bt528.1 bt532.1).bind fun t536 => (if t536 = (bt528.1.length : Int) then (some (decide ((bt528.1.length : Int) < (bt532.1.length : Int)), 0)) else (some (false, 0)))) else (some (false, 45))) else (some (false, 45))))
theorem treadleref04_Above.mono : ∀ a0 a1 k, LeO (treadleref04_Above.f k a0 a1) (treadleref04_Above.f (k + 1) a0 a1) := by
  intro a0 a1 k
  unfold treadleref04_Above.f
  repeat' first
      | (with_reducible exact treadleref04_Names.mono _ _)
      | (with_reducible exact treadleref04_common.mono _ _ _)
      | (with_reducible exact LeO.refl _)
      | (with_reducible exact LeO.none _)
      | (with_reducible refine LeO.ite ?_ ?_)
      | (with_reducible refine LeO.bind ?_ (fun _ => ?_))
      | exact treadleref04_Names.mono _ _
      | exact treadleref04_common.mono _ _ _
      | exact LeO.none _
      | refine LeO.ite ?_ ?_
      | refine LeO.bind ?_ (fun _ => ?_)

/-! ### treadleref04_Compare: function 40 -/
mutual
def treadleref04_Compare.j0 : Nat → List ByteArray → List ByteArray → Bool → Option (Int × Int)
  | 0, _, _, _ => none
  | k + 1, x6, x8, x26 => if x26 = true then (some (0, 45)) else ((treadleref04_common.f k x6 x8).bind fun t545 => (if t545 = (x6.length : Int) then (treadleref04_Compare.j1 k x6 x8 t545 (t545 == (x8.length : Int))) else (treadleref04_Compare.j1 k x6 x8 t545 false)))
def treadleref04_Compare.j1 : Nat → List ByteArray → List ByteArray → Int → Bool → Option (Int × Int)
  | 0, _, _, _, _ => none
  | k + 1, x6, x8, x10, x30 => if x30 = true then (some (0, 0)) else (if x10 = (x6.length : Int) then (some ((-1), 0)) else (if x10 = (x8.length : Int) then (some (1, 0)) else (if 0 ≤ x10 then (if x10 < (x6.length : Int) then (if x10 < (x8.length : Int) then (if (Op.bytesLess ((rdOf ByteArray.empty x6 x10).toList) ((rdOf ByteArray.empty x8 x10).toList)) = true then (some ((-1), 0)) else (some (1, 0))) else (none)) else (none)) else (none))))
end
def treadleref04_Compare.f (k : Nat) (a0 : ByteArray) (a1 : ByteArray) : Option (Int × Int) := (treadleref04_Names.f k a0).bind fun bt537 => ((treadleref04_Names.f k a1).bind fun bt541 => (if bt537.2 = true then (treadleref04_Compare.j0 k bt537.1 bt541.1 (!bt541.2)) else (treadleref04_Compare.j0 k bt537.1 bt541.1 true)))
theorem treadleref04_Compare.mono_l : ∀ k, (∀ y0 y1 y2, LeO (treadleref04_Compare.j0 k y0 y1 y2) (treadleref04_Compare.j0 (k + 1) y0 y1 y2)) ∧ (∀ y0 y1 y2 y3, LeO (treadleref04_Compare.j1 k y0 y1 y2 y3) (treadleref04_Compare.j1 (k + 1) y0 y1 y2 y3))
  | 0 => ⟨fun _ _ _ r h => by simp [treadleref04_Compare.j0] at h, fun _ _ _ _ r h => by simp [treadleref04_Compare.j1] at h⟩
  | k + 1 => by
    obtain ⟨ih0, ih1⟩ := treadleref04_Compare.mono_l k
    refine ⟨?_, ?_⟩
    · intro y0 y1 y2
      unfold treadleref04_Compare.j0
      repeat' first
      | (with_reducible exact ih0 _ _ _)
      | (with_reducible exact ih1 _ _ _ _)
      | (with_reducible exact treadleref04_Names.mono _ _)
      | (with_reducible exact treadleref04_common.mono _ _ _)
      | (with_reducible exact LeO.refl _)
      | (with_reducible exact LeO.none _)
      | (with_reducible refine LeO.ite ?_ ?_)
      | (with_reducible refine LeO.bind ?_ (fun _ => ?_))
      | exact ih0 _ _ _
      | exact ih1 _ _ _ _
      | exact treadleref04_Names.mono _ _
      | exact treadleref04_common.mono _ _ _
      | exact LeO.none _
      | refine LeO.ite ?_ ?_
      | refine LeO.bind ?_ (fun _ => ?_)
    · intro y0 y1 y2 y3
      unfold treadleref04_Compare.j1
      repeat' first
      | (with_reducible exact ih0 _ _ _)
      | (with_reducible exact ih1 _ _ _ _)
      | (with_reducible exact treadleref04_Names.mono _ _)
      | (with_reducible exact treadleref04_common.mono _ _ _)
      | (with_reducible exact LeO.refl _)
      | (with_reducible exact LeO.none _)
      | (with_reducible refine LeO.ite ?_ ?_)
      | (with_reducible refine LeO.bind ?_ (fun _ => ?_))
      | exact ih0 _ _ _
      | exact ih1 _ _ _ _
      | exact treadleref04_Names.mono _ _
      | exact treadleref04_common.mono _ _ _
      | exact LeO.none _
      | refine LeO.ite ?_ ?_
      | refine LeO.bind ?_ (fun _ => ?_)
theorem treadleref04_Compare.mono : ∀ a0 a1 k, LeO (treadleref04_Compare.f k a0 a1) (treadleref04_Compare.f (k + 1) a0 a1) := by
  intro a0 a1 k
  obtain ⟨ih0, ih1⟩ := treadleref04_Compare.mono_l k
  unfold treadleref04_Compare.f
  repeat' first
      | (with_reducible exact ih0 _ _ _)
      | (with_reducible exact ih1 _ _ _ _)
      | (with_reducible exact treadleref04_Names.mono _ _)
      | (with_reducible exact treadleref04_common.mono _ _ _)
      | (with_reducible exact LeO.refl _)
      | (with_reducible exact LeO.none _)
      | (with_reducible refine LeO.ite ?_ ?_)
      | (with_reducible refine LeO.bind ?_ (fun _ => ?_))
      | exact ih0 _ _ _
      | exact ih1 _ _ _ _
      | exact treadleref04_Names.mono _ _
      | exact treadleref04_common.mono _ _ _
      | exact LeO.none _
      | refine LeO.ite ?_ ?_
      | refine LeO.bind ?_ (fun _ => ?_)

/-! ### treadleref04_Rel: function 41 -/
mutual
def treadleref04_Rel.j0 : Nat → List ByteArray → List ByteArray → Bool → Option (ByteArray × Int)
  | 0, _, _, _ => none
  | k + 1, x6, x8, x28 => if x28 = true then (some ((⟨#[]⟩ : ByteArray), 45)) else ((treadleref04_common.f k x6 x8).bind fun t556 => (treadleref04_Rel.l0 k x6 x8 t556 ([] : List ByteArray) t556))
def treadleref04_Rel.l0 : Nat → List ByteArray → List ByteArray → Int → List ByteArray → Int → Option (ByteArray × Int)
  | 0, _, _, _, _, _ => none
  | k + 1, x6, x8, x10, x11, x12 => if x12 < (x6.length : Int) then (if x11.length < 8796093022208 then (treadleref04_Rel.l0 k x6 x8 x10 (x11 ++ [(⟨#[46, 46]⟩ : ByteArray)]) (wrap64 (x12 + 1))) else (none)) else (if 0 ≤ x10 then (if x10 ≤ (x8.length : Int) then ((some (x8.drop (x10 : Int).toNat : List ByteArray)).bind fun y560 => (if x11.length + y560.length < 8796093022208 then ((some (x11 ++ y560 : List ByteArray)).bind fun y564 => (if (y564.length : Int) = 0 then (some ((⟨#[46]⟩ : ByteArray), 0)) else ((treadleref04_text.f k y564).bind fun t567 => (some (t567, 0))))) else (none))) else (none)) else (none))
end
def treadleref04_Rel.f (k : Nat) (a0 : ByteArray) (a1 : ByteArray) : Option (ByteArray × Int) := (treadleref04_Names.f k a0).bind fun bt548 => ((treadleref04_Names.f k a1).bind fun bt552 => (if bt548.2 = true then (treadleref04_Rel.j0 k bt548.1 bt552.1 (!bt552.2)) else (treadleref04_Rel.j0 k bt548.1 bt552.1 true)))
theorem treadleref04_Rel.mono_l : ∀ k, (∀ y0 y1 y2, LeO (treadleref04_Rel.j0 k y0 y1 y2) (treadleref04_Rel.j0 (k + 1) y0 y1 y2)) ∧ (∀ y0 y1 y2 y3 y4, LeO (treadleref04_Rel.l0 k y0 y1 y2 y3 y4) (treadleref04_Rel.l0 (k + 1) y0 y1 y2 y3 y4))
  | 0 => ⟨fun _ _ _ r h => by simp [treadleref04_Rel.j0] at h, fun _ _ _ _ _ r h => by simp [treadleref04_Rel.l0] at h⟩
  | k + 1 => by
    obtain ⟨ih0, ih1⟩ := treadleref04_Rel.mono_l k
    refine ⟨?_, ?_⟩
    · intro y0 y1 y2
      unfold treadleref04_Rel.j0
      repeat' first
      | (with_reducible exact ih0 _ _ _)
      | (with_reducible exact ih1 _ _ _ _ _)
      | (with_reducible exact treadleref04_Names.mono _ _)
      | (with_reducible exact treadleref04_common.mono _ _ _)
      | (with_reducible exact treadleref04_text.mono _ _)
      | (with_reducible exact LeO.refl _)
      | (with_reducible exact LeO.none _)
      | (with_reducible refine LeO.ite ?_ ?_)
      | (with_reducible refine LeO.bind ?_ (fun _ => ?_))
      | exact ih0 _ _ _
      | exact ih1 _ _ _ _ _
      | exact treadleref04_Names.mono _ _
      | exact treadleref04_common.mono _ _ _
      | exact treadleref04_text.mono _ _
      | exact LeO.none _
      | refine LeO.ite ?_ ?_
      | refine LeO.bind ?_ (fun _ => ?_)
    · intro y0 y1 y2 y3 y4
      unfold treadleref04_Rel.l0
      repeat' first
      | (with_reducible exact ih0 _ _ _)
      | (with_reducible exact ih1 _ _ _ _ _)
      | (with_reducible exact treadleref04_Names.mono _ _)
      | (with_reducible exact treadleref04_common.mono _ _ _)
      | (with_reducible exact treadleref04_text.mono _ _)
      | (with_reducible exact LeO.refl _)
      | (with_reducible exact LeO.none _)
      | (with_reducible refine LeO.ite ?_ ?_)
      | (with_reducible refine LeO.bind ?_ (fun _ => ?_))
      | exact ih0 _ _ _
      | exact ih1 _ _ _ _ _
      | exact treadleref04_Names.mono _ _
      | exact treadleref04_common.mono _ _ _
      | exact treadleref04_text.mono _ _
      | exact LeO.none _
      | refine LeO.ite ?_ ?_
      | refine LeO.bind ?_ (fun _ => ?_)
theorem treadleref04_Rel.mono : ∀ a0 a1 k, LeO (treadleref04_Rel.f k a0 a1) (treadleref04_Rel.f (k + 1) a0 a1) := by
  intro a0 a1 k
  obtain ⟨ih0, ih1⟩ := treadleref04_Rel.mono_l k
  unfold treadleref04_Rel.f
  repeat' first
      | (with_reducible exact ih0 _ _ _)
      | (with_reducible exact ih1 _ _ _ _ _)
      | (with_reducible exact treadleref04_Names.mono _ _)
      | (with_reducible exact treadleref04_common.mono _ _ _)
      | (with_reducible exact treadleref04_text.mono _ _)
      | (with_reducible exact LeO.refl _)
      | (with_reducible exact LeO.none _)
      | (with_reducible refine LeO.ite ?_ ?_)
      | (with_reducible refine LeO.bind ?_ (fun _ => ?_))
      | exact ih0 _ _ _
      | exact ih1 _ _ _ _ _
      | exact treadleref04_Names.mono _ _
      | exact treadleref04_common.mono _ _ _
      | exact treadleref04_text.mono _ _
      | exact LeO.none _
      | refine LeO.ite ?_ ?_
      | refine LeO.bind ?_ (fun _ => ?_)

/-! ### treadleref04_Split: function 42 -/
def treadleref04_Split.f (k : Nat) (a0 : ByteArray) : Option (ByteArray × ByteArray × Int) := (treadleref04_Names.f k a0).bind fun bt568 => (if bt568.2 = true then (if (bt568.1.length : Int) = 0 then (some ((⟨#[]⟩ : ByteArray), (⟨#[]⟩ : ByteArray), 46)) else (if 0 ≤ (wrap64 ((bt568.1.length : Int) - 1)) then (if (wrap64 ((bt568.1.length : Int) - 1)) ≤ (bt568.1.length : Int) then ((treadleref04_text.f k (bt568.1.take ((wrap64 ((bt568.1.length : Int) - 1)) : Int).toNat)).bind fun t576 => (if (wrap64 ((bt568.1.length : Int) - 1)) < (bt568.1.length : Int) then (some (t576, rdOf ByteArray.empty bt568.1 (wrap64 ((bt568.1.length : Int) - 1)), 0)) else (none))) else (none)) else (none))) else (some ((⟨#[]⟩ : ByteArray), (⟨#[]⟩ : ByteArray), 45)))
theorem treadleref04_Split.mono : ∀ a0 k, LeO (treadleref04_Split.f k a0) (treadleref04_Split.f (k + 1) a0) := by
  intro a0 k
  unfold treadleref04_Split.f
  repeat' first
      | (with_reducible exact treadleref04_Names.mono _ _)
      | (with_reducible exact treadleref04_text.mono _ _)
      | (with_reducible exact LeO.refl _)
      | (with_reducible exact LeO.none _)
      | (with_reducible refine LeO.ite ?_ ?_)
      | (with_reducible refine LeO.bind ?_ (fun _ => ?_))
      | exact treadleref04_Names.mono _ _
      | exact treadleref04_text.mono _ _
      | exact LeO.none _
      | refine LeO.ite ?_ ?_
      | refine LeO.bind ?_ (fun _ => ?_)

/-! ### treadlelaw04_PathPairs: function 14 -/
def treadlelaw04_PathPairs.f (k : Nat) (a0 : ByteArray) (a1 : ByteArray) : Option (Bool) := (path_Above.f k a0 a1).bind fun bt578 => ((treadleref04_Above.f k a0 a1).bind fun bt580 => ((path_Compare.f k a0 a1).bind fun bt582 => ((treadleref04_Compare.f k a0 a1).bind fun bt584 => ((path_Rel.f k a0 a1).bind fun bt586 => ((treadleref04_Rel.f k a0 a1).bind fun bt588 => ((path_Split.f k a0).bind fun bt590 => ((treadleref04_Split.f k a0).bind fun bt593 => (if (bt578.1 == bt580.1) = true then ((treadlelaw04_num.f bt578.2).bind fun t596 => (if t596 = bt580.2 then (if bt582.1 = bt584.1 then ((treadlelaw04_num.f bt582.2).bind fun t597 => (if t597 = bt584.2 then (if bt586.1.toList = bt588.1.toList then ((treadlelaw04_num.f bt586.2).bind fun t598 => (if t598 = bt588.2 then (if bt590.1.toList = bt593.1.toList then (if bt590.2.1.toList = bt593.2.1.toList then ((treadlelaw04_num.f bt590.2.2).bind fun t599 => (if t599 = bt593.2.2 then ((treadlelaw04_awake.f k).bind fun t600 => (some t600)) else (some false))) else (some false)) else (some false)) else (some false))) else (some false)) else (some false))) else (some false)) else (some false))) else (some false)))))))))
theorem treadlelaw04_PathPairs.mono : ∀ a0 a1 k, LeO (treadlelaw04_PathPairs.f k a0 a1) (treadlelaw04_PathPairs.f (k + 1) a0 a1) := by
  intro a0 a1 k
  unfold treadlelaw04_PathPairs.f
  repeat' first
      | (with_reducible exact path_Above.mono _ _ _)
      | (with_reducible exact path_Compare.mono _ _ _)
      | (with_reducible exact path_Rel.mono _ _ _)
      | (with_reducible exact path_Split.mono _ _)
      | (with_reducible exact treadlelaw04_awake.mono _)
      | (with_reducible exact treadleref04_Above.mono _ _ _)
      | (with_reducible exact treadleref04_Compare.mono _ _ _)
      | (with_reducible exact treadleref04_Rel.mono _ _ _)
      | (with_reducible exact treadleref04_Split.mono _ _)
      | (with_reducible exact LeO.refl _)
      | (with_reducible exact LeO.none _)
      | (with_reducible refine LeO.ite ?_ ?_)
      | (with_reducible refine LeO.bind ?_ (fun _ => ?_))
      | exact path_Above.mono _ _ _
      | exact path_Compare.mono _ _ _
      | exact path_Rel.mono _ _ _
      | exact path_Split.mono _ _
      | exact treadlelaw04_awake.mono _
      | exact treadleref04_Above.mono _ _ _
      | exact treadleref04_Compare.mono _ _ _
      | exact treadleref04_Rel.mono _ _ _
      | exact treadleref04_Split.mono _ _
      | exact LeO.none _
      | refine LeO.ite ?_ ?_
      | refine LeO.bind ?_ (fun _ => ?_)

end Go.Proofs.YtaolgiojjeopkaaDoor.P
