/- The arguments of a law, opened: what a reading of each kind of argument gives. No law in sight. -/
import Derived.Test.YtflmcglppeehgaaDoorBulk
import Derived.Test.YtflmcglppeehgaaDoorWMore
import Derived.WalkKit
import Derived.ProofKit
import Derived.OpenShut
import Derived.ShutString
import Derived.SliceStrings
namespace Go.Proofs.YtflmcglppeehgaaDoor.Opens
open Go.ChangeShapes Go.WideShapes Go.ChangeAt Go.RowKit Go.Proofs.YtflmcglppeehgaaDoorW.PrintWords Go.Proofs.YtflmcglppeehgaaDoorW.PrintLast Go.Proofs.YtflmcglppeehgaaDoorW.PrintMore
open Go.ChangeMaps (open_string shut_string)
set_option linter.unusedVariables false
set_option linter.unusedSimpArgs false

theorem bulk_str {H : Type} {s : ByteArray} {l : List (DataW H)} (h : (DataW.lit (.string s.data.toList)) ∈ l) (hk : Rows.uptoSmall H l = true) : s.size ≤ 1048576 := by
  have h1 := bulks.part_le h
  have h2 := bulks.bound hk
  rw [bulks.string_eq] at h1
  have e : s.data.toList.length = s.size := by rw [Array.length_toList]; rfl
  omega
theorem bulk_strs {H : Type} (l : List ByteArray) : Rows.uptoBulkAll (strs (H := H) l) = (l.map (fun s => s.size + 1)).sum := by
  induction l with
  | nil => rfl
  | cons x r ih =>
    have e : x.data.toList.length = x.size := by rw [Array.length_toList]; rfl
    have e2 : strs (H := H) (x :: r) = .lit (.string x.data.toList) :: strs r := rfl
    rw [e2, Rows.uptoBulkAll, ih, bulks.string_eq, e]; simp
theorem open_strs {H : Type} {enc : TypeId × Value → H} {P : Program} {W : World} {t e : TypeId} {a : Option Addr} {len cap : Nat} {d : DataW H} {ps : List MemPlace} (ht : P.underlying t = some (.slice e)) (he : P.underlying e = some .string) (hc : P.cellsOf e = 1)
    (h : DataW.Trod enc P W 0 (fun _ => true) true t (.slice a len cap) d ps) :
    ∃ l : List ByteArray, len = l.length ∧ len ≤ cap ∧ Kd.C Kd.string W a l.length l ∧ (l.map (fun s => s.size + 1)).sum ≤ Rows.uptoBulk d := by
  obtain ⟨fuel, hf⟩ := h
  rcases open_strings ht he hc hf with ⟨hcs, hx⟩ | ⟨x, l, c, ss, hcs, _, hl, hm, hz, hx, hcell, hw⟩
  · simp [Value.cells] at hcs
    obtain ⟨rfl, rfl, rfl⟩ := hcs
    exact ⟨[], rfl, Nat.le_refl _, ⟨rfl, by simp, fun h => absurd h (by simp)⟩, by simp⟩
  · simp [Value.cells] at hcs
    obtain ⟨rfl, rfl, rfl⟩ := hcs
    simp only [Prod.mk.injEq] at hx
    obtain ⟨rfl, _⟩ := hx
    simp at hz
    have hlen : (ss.take len).length = len := by rw [List.length_take]; omega
    refine ⟨ss.take len, hlen.symm, hl, ⟨rfl, by rw [hlen]; unfold maxLen at hm; omega, fun _ => ⟨x, rfl, fun j p hj => ?_⟩⟩, ?_⟩
    · have hj2 : j < len := by have := (List.getElem?_eq_some_iff.1 hj).1; omega
      refine ⟨[.string p], rfl, rfl, fun i u hi => ?_⟩
      have hi0 : i = 0 := by have := (List.getElem?_eq_some_iff.1 hi).1; simp at this; exact this
      subst hi0
      simp at hi; subst hi
      have := hcell j (by omega)
      have e1 : ss.getD j ByteArray.empty = p := by
        rw [List.getElem?_take_of_lt hj2] at hj
        rw [List.getD_eq_getElem?_getD, hj]; rfl
      rw [e1] at this
      have e2 : j * (Kd.string).sz + 0 = j := by show j * 1 + 0 = j; omega
      rw [e2]; exact this
    · have h1 := bulks.slice_elems (H := H) (strs (ss.take len)) (strs (ss.drop len))
      rw [bulk_strs] at h1
      omega
theorem bulk_arg {H : Type} {d : DataW H} {l : List (DataW H)} (h : d ∈ l) (hk : Rows.uptoSmall H l = true) : Rows.uptoBulk d ≤ 1048576 := Nat.le_trans (bulks.part_le h) (bulks.bound hk)
theorem strs_len (l : List ByteArray) : l.length ≤ (l.map (fun s => s.size + 1)).sum := by
  induction l with
  | nil => simp
  | cons x r ih => simp; omega
theorem strs_mem {l : List ByteArray} {s : ByteArray} (h : s ∈ l) : s.size + 1 ≤ (l.map (fun s => s.size + 1)).sum := by
  induction l with
  | nil => cases h
  | cons x r ih =>
    cases List.mem_cons.1 h with
    | inl e => subst e; simp
    | inr e => have := ih e; simp; omega
end Go.Proofs.YtflmcglppeehgaaDoor.Opens
