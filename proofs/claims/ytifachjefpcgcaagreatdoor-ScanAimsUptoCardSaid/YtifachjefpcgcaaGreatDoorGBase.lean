import Derived.Lib.Strings
import Derived.Lib.Bytealg
import Derived.Lib.Join
import Derived.Test.YtifachjefpcgcaaGreatDoorGWMore
namespace Go.Proofs.YtifachjefpcgcaaGreatDoor.Base
open Go.RowKit Go.Proofs.YtifachjefpcgcaaGreatDoorW.PrintWords Go.Proofs.YtifachjefpcgcaaGreatDoorW.PrintLast Go.Proofs.YtifachjefpcgcaaGreatDoorW.PrintMore
set_option linter.unusedVariables false
set_option linter.unusedSimpArgs false
theorem wrap_succ {i : Nat} (h : i < 4611686018427387904) : wrap64 ((i : Int) + 1) = ((i + 1 : Nat) : Int) := by unfold wrap64; omega
theorem wrap_id {i : Int} (h0 : -4611686018427387904 ≤ i) (h : i < 4611686018427387904) : wrap64 i = i := by unfold wrap64; omega
theorem drop_none {α : Type} {l : List α} {i : Nat} (h : l.drop i = []) : l.length ≤ i := List.drop_eq_nil_iff.mp h
theorem drop_some {α : Type} {l : List α} {i : Nat} {x : α} {r : List α} (h : l.drop i = x :: r) : i < l.length ∧ (∀ d, l.getD i d = x) ∧ l.drop (i + 1) = r := by
 have hi : i < l.length := by
  rcases Nat.lt_or_ge i l.length with h1 | h1
  ·exact h1
  ·rw [List.drop_eq_nil_of_le h1] at h; cases h
 rw [List.drop_eq_getElem_cons hi] at h
 injection h with h1 h2
 refine ⟨hi, fun d => ?_, h2⟩
 rw [List.getD_eq_getElem?_getD, List.getElem?_eq_getElem hi]; exact h1
theorem rdOf_drop {α : Type} {l : List α} {i : Nat} {x : α} {r : List α} (h : l.drop i = x :: r) (d : α) : rdOf d l (i : Int) = x := by
 unfold rdOf; simpa using (drop_some h).2.1 d
theorem take_drop_succ {α : Type} {l : List α} {i : Nat} {x : α} {r : List α} (h : l.drop i = x :: r) : l.take (i + 1) = l.take i ++ [x] := by
 have hi := (drop_some h).1
 rw [List.take_succ_eq_append_getElem hi]
 have := (drop_some h).2.1 x
 rw [List.getD_eq_getElem?_getD, List.getElem?_eq_getElem hi] at this
 simp at this; rw [this]
abbrev L (s : ByteArray) : List UInt8 := s.data.toList
abbrev mkB (l : List UInt8) : ByteArray := ⟨l.toArray⟩
theorem L_mkB (l : List UInt8) : L (mkB l) = l := by simp [L, mkB]
theorem mkB_L (s : ByteArray) : mkB (L s) = s := by obtain ⟨⟨l⟩⟩ := s; rfl
theorem L_inj {a b : ByteArray} (h : L a = L b) : a = b := by rw [← mkB_L a, h, mkB_L]
theorem L_length (s : ByteArray) : (L s).length = s.size := by obtain ⟨⟨l⟩⟩ := s; rfl
theorem toList_L (s : ByteArray) : s.toList = L s := Lib.toList_data s
theorem toList_inj {a b : ByteArray} : a.toList = b.toList ↔ a = b := by
 rw [toList_L, toList_L]; exact ⟨L_inj, fun h => by rw [h]⟩
theorem L_append (a b : ByteArray) : L (a ++ b) = L a ++ L b := by simp [L]
theorem L_extract (s : ByteArray) (a b : Nat) : L (s.extract a b) = ((L s).drop a).take (b - a) := Lib.extract_data s a b
theorem bt_drop {s : ByteArray} {i : Nat} {c : UInt8} {r : List UInt8} (h : (L s).drop i = c :: r) : bt s (i : Int) = (c.toNat : Int) ∧ i < s.size := by
 obtain ⟨h1, h2, _⟩ := drop_some h
 rw [L_length] at h1
 refine ⟨?_, h1⟩
 have h3 := h2 0
 obtain ⟨⟨l⟩⟩ := s
 have h4 : i < l.length := h1
 simp only [L] at h3
 rw [List.getD_eq_getElem?_getD, List.getElem?_eq_getElem h4] at h3
 unfold bt
 have h5 : ((i : Int)).toNat = i := by omega
 simp only [h5]
 rw [dif_pos h1]
 have : (⟨⟨l⟩⟩ : ByteArray)[i]'h1 = l[i]'h4 := rfl
 rw [this]
 simp at h3
 rw [h3]
theorem size_eq_L (s : ByteArray) : s.size = (L s).length := (L_length s).symm
end Go.Proofs.YtifachjefpcgcaaGreatDoor.Base
namespace Go.Proofs.YtifachjefpcgcaaGreatDoorW.PrintWords
theorem Ev.ite_pos {α : Type} {c : Prop} [Decidable c] {g f : Nat → Option α} {r : α} (h : c) (k : Ev g r) : Ev (fun n => if c then g n else f n) r := by simp only [if_pos h]; exact k
theorem Ev.ite_neg {α : Type} {c : Prop} [Decidable c] {g f : Nat → Option α} {r : α} (h : ¬ c) (k : Ev f r) : Ev (fun n => if c then g n else f n) r := by simp only [if_neg h]; exact k
theorem Ev.some_ {α : Type} {r r' : α} (h : r' = r) : Ev (fun _ => some r') r := by subst h; exact Ev.now _
theorem Ev.bind_now {α β : Type} {o : Option α} {f : Nat → α → Option β} {a : α} {r : β} (h : o = some a) (k : Ev (fun n => f n a) r) : Ev (fun n => o.bind (f n)) r := by
 subst h; exact k
theorem Ev.eq {α : Type} {g : Nat → Option α} {r r' : α} (k : Ev g r) (h : r = r') : Ev g r' := h ▸ k
end Go.Proofs.YtifachjefpcgcaaGreatDoorW.PrintWords
