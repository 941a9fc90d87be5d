import Derived.Test.YtflmcglppeehgaaDoorTOpen
namespace Go.Proofs.YtflmcglppeehgaaDoor.Opens
open Go.ChangeShapes Go.WideShapes Go.ChangeAt Go.RowKit Go.Proofs.YtflmcglppeehgaaDoorW.PrintWords Go.Proofs.YtflmcglppeehgaaDoorW.PrintLast Go.Proofs.YtflmcglppeehgaaDoorW.PrintMore
set_option linter.unusedVariables false
set_option linter.unusedSimpArgs false
theorem open_elems {H : Type} {enc : TypeId × Value → H} {P : Program} {w : World} {e : TypeId} {n : Nat} {α : Type} (d : Kd α) (hd : d.sz = 1) (B : α → Nat) (a : Addr)
    (hel : ∀ cs x, DataW.trod enc P w 0 (fun _ => true) true n e cs = some x → ∃ p : α, d.K w p cs ∧ B p ≤ Rows.uptoBulk x.1) :
    ∀ (es : List (DataW H × List MemPlace)) (off : Nat), (∀ i, i < es.length → (w.cells? 0 (a.add (off + i)) 1).bind (DataW.trod enc P w 0 (fun _ => true) true n e) = es[i]?) →
    ∃ l : List α, l.length = es.length ∧ (∀ (j : Nat) p, l[j]? = some p → ∃ u, d.K w p [u] ∧ w.cell? (a.add (off + j)) = some u) ∧ (l.map B).sum ≤ Rows.uptoBulkAll (es.map (·.1))
  | [], off, h => ⟨[], rfl, fun j p hp => by simp at hp, Nat.zero_le _⟩
  | y :: es, off, h => by
    obtain ⟨l, h1, h2, h3⟩ := open_elems d hd B a hel es (off + 1) (fun i hi => by
      have := h (i + 1) (by simp; omega)
      rw [show off + 1 + i = off + (i + 1) by omega, this]; rfl)
    have h0 := h 0 (by simp)
    rw [List.getElem?_cons_zero, Option.bind_eq_some_iff] at h0
    obtain ⟨cs, hcs, hy⟩ := h0
    obtain ⟨p, hp, hb⟩ := hel cs y hy
    have hl := d.K_len hp
    rw [hd] at hl
    match cs, hl, hcs, hp with
    | [u], _, hcs, hp =>
      refine ⟨p :: l, by simp [h1], fun j q hq => ?_, ?_⟩
      · cases j with
        | zero =>
          simp at hq; subst hq
          exact ⟨u, hp, cell_of_cells?_one hcs⟩
        | succ j =>
          obtain ⟨u', k1, k2⟩ := h2 j q (by simpa using hq)
          exact ⟨u', k1, by rw [show off + (j + 1) = off + 1 + j by omega]; exact k2⟩
      · simp only [List.map_cons, List.sum_cons, Rows.uptoBulkAll]; omega
theorem open_slice1 {H : Type} {enc : TypeId × Value → H} {P : Program} {w : World} {t e : TypeId} {α : Type} (d : Kd α) (hd : d.sz = 1) (B : α → Nat) (ht : P.underlying t = some (.slice e)) (hc : P.cellsOf e = 1)
    (hel : ∀ n cs x, DataW.trod enc P w 0 (fun _ => true) true n e cs = some x → ∃ p : α, d.K w p cs ∧ B p ≤ Rows.uptoBulk x.1)
    {fuel : Nat} {cs : List Value} {x : DataW H × List MemPlace} (h : DataW.trod enc P w 0 (fun _ => true) true fuel t cs = some x) :
    ∃ (l : List α) (A : Option Addr) (c : Nat), cs = [.slice A l.length c] ∧ l.length ≤ c ∧ d.C w A l.length l ∧ (l.map B).sum + 1 ≤ Rows.uptoBulk x.1 := by
  rcases DataW.trod_slice ht h with ⟨rfl, rfl⟩ | ⟨a, len, cap, elems, rest, n, _, rfl, rfl, hb, hl, hm, hlen, hes, hsp, hns⟩
  · exact ⟨[], none, 0, rfl, Nat.le_refl _, ⟨rfl, by simp, fun h => absurd h (by simp)⟩, by simp [Rows.uptoBulk]⟩
  · obtain ⟨l, h1, h2, h3⟩ := open_elems (enc := enc) (P := P) (e := e) (n := n) d hd B a (hel n) elems 0 (fun i hi => by
      have := hes i (by omega)
      rw [hc, Nat.mul_one] at this
      rw [Nat.zero_add]; exact this)
    have hll : l.length = len := by omega
    refine ⟨l, some a, cap, by rw [hll], by omega, ⟨rfl, by unfold maxLen at hm; omega, fun _ => ⟨a, rfl, fun j p hj => ?_⟩⟩, ?_⟩
    · obtain ⟨u, k1, k2⟩ := h2 j p hj
      refine ⟨[u], by rw [hd]; rfl, k1, fun i v hi => ?_⟩
      have hi0 : i = 0 := by have := (List.getElem?_eq_some_iff.1 hi).1; simp at this; exact this
      subst hi0
      simp at hi; subst hi
      rw [hd, Nat.mul_one, Nat.add_zero]
      rw [Nat.zero_add] at k2; exact k2
    · simp only [Rows.uptoBulk]; omega
theorem open_ints {H : Type} {enc : TypeId × Value → H} {P : Program} {w : World} {t e : TypeId} {k : IntKind} (ht : P.underlying t = some (.slice e)) (he : P.underlying e = some (.int k)) (hc : P.cellsOf e = 1)
    {fuel : Nat} {cs : List Value} {x : DataW H × List MemPlace} (h : DataW.trod enc P w 0 (fun _ => true) true fuel t cs = some x) :
    ∃ (l : List Int) (A : Option Addr) (c : Nat), cs = [.slice A l.length c] ∧ l.length ≤ c ∧ (Kd.int k).C w A l.length l ∧ l.length + 1 ≤ Rows.uptoBulk x.1 := by
  obtain ⟨l, A, c, h1, h2, h3, h4⟩ := open_slice1 (Kd.int k) rfl (fun _ => 1) ht hc (fun n cs x hx => by
    obtain ⟨z, rfl, rfl, _⟩ := DataW.trod_int he hx
    exact ⟨z, rfl, bulks.one_le _⟩) h
  refine ⟨l, A, c, h1, h2, h3, ?_⟩
  have : (l.map (fun _ => 1)).sum = l.length := by
    clear h1 h2 h3 h4
    induction l with
    | nil => rfl
    | cons _ _ ih => simp [ih]; omega
  omega
theorem open_intss {H : Type} {enc : TypeId × Value → H} {P : Program} {w : World} {t e e' : TypeId} {k : IntKind} (ht : P.underlying t = some (.slice e)) (he : P.underlying e = some (.slice e')) (he' : P.underlying e' = some (.int k)) (hc : P.cellsOf e = 1) (hc' : P.cellsOf e' = 1)
    {a : Option Addr} {len cap : Nat} {d : DataW H} {ps : List MemPlace} (h : DataW.Trod enc P w 0 (fun _ => true) true t (.slice a len cap) d ps) (m : Nat) :
    ∃ l : List (List Int), len = l.length ∧ len ≤ cap ∧ (Kd.slice m (Kd.int k)).C w a l.length l ∧ (l.map (fun s => s.length + 1)).sum ≤ Rows.uptoBulk d := by
  obtain ⟨fuel, hf⟩ := h
  obtain ⟨l, A, c, h1, h2, h3, h4⟩ := open_slice1 (Kd.slice m (Kd.int k)) rfl (fun s : List Int => s.length + 1) ht hc (fun n cs x hx => by
    obtain ⟨l, A, c, h1, h2, h3, h4⟩ := open_ints he he' hc' hx
    exact ⟨l, ⟨A, c, h1, h2, h3⟩, h4⟩) hf
  simp [Value.cells] at h1
  obtain ⟨rfl, rfl, rfl⟩ := h1
  have h5 : (l.map (fun s : List Int => s.length + 1)).sum + 1 ≤ Rows.uptoBulk d := h4
  exact ⟨l, rfl, h2, h3, by omega⟩
theorem ints_mem {l : List (List Int)} {s : List Int} (h : s ∈ l) : s.length + 1 ≤ (l.map (fun s => s.length + 1)).sum := by
  induction l with
  | nil => cases h
  | cons x r ih =>
    cases List.mem_cons.1 h with
    | inl e => subst e; simp
    | inr e => have := ih e; simp; omega
theorem ints_len (l : List (List Int)) : l.length ≤ (l.map (fun s => s.length + 1)).sum := by
  induction l with
  | nil => simp
  | cons x r ih => simp; omega
end Go.Proofs.YtflmcglppeehgaaDoor.Opens
