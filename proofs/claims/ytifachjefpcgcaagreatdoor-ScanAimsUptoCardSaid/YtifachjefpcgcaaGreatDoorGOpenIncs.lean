import Derived.Deep.Strs
import Derived.DataReads
import Derived.Test.YtifachjefpcgcaaGreatDoorGOpen
import Derived.Test.YtifachjefpcgcaaGreatDoorGP0
namespace Go.Proofs.YtifachjefpcgcaaGreatDoor.Opens
open Go.ChangeShapes Go.WideShapes Go.ChangeAt Go.RowKit Go.Proofs.YtifachjefpcgcaaGreatDoor.P Go.Proofs.YtifachjefpcgcaaGreatDoorW.PrintWords Go.Proofs.YtifachjefpcgcaaGreatDoorW.PrintLast Go.Proofs.YtifachjefpcgcaaGreatDoorW.PrintMore
set_option linter.unusedVariables false
set_option linter.unusedSimpArgs false
theorem open_elemsN {H : Type} {enc : TypeId × Value → H} {P : Program} {w : World} {e : TypeId} {n z : Nat} {α : Type} (d : Kd α) (hd : d.sz = z) (B : α → Nat) (a : Addr)
  (hel : ∀ cs x, DataW.trod enc P w 0 (fun _ => true) true n e cs = some x → ∃ p : α, d.K w p cs ∧ B p ≤ Rows.uptoBulk x.1) :
  ∀ (es : List (DataW H × List MemPlace)) (off : Nat), (∀ i, i < es.length → (w.cells? 0 (a.add ((off + i) * z)) z).bind (DataW.trod enc P w 0 (fun _ => true) true n e) = es[i]?) →
  ∃ l : List α, l.length = es.length ∧ (∀ (j : Nat) p, l[j]? = some p → ∃ cs : List Value, cs.length = z ∧ d.K w p cs ∧ ∀ (i : Nat) u, cs[i]? = some u → w.cell? (a.add ((off + j) * z + i)) = some u) ∧ (l.map B).sum ≤ Rows.uptoBulkAll (es.map (·.1))
 | [], off, h => ⟨[], rfl, fun j p hp => by simp at hp, Nat.zero_le _⟩
 | y :: es, off, h => by
  obtain ⟨l, h1, h2, h3⟩ := open_elemsN d hd B a hel es (off + 1) (fun i hi => by
   have := h (i + 1) (by simp; omega)
   rw [show off + 1 + i = off + (i + 1) by omega, this]; rfl)
  have h0 := h 0 (by simp)
  rw [List.getElem?_cons_zero, Option.bind_eq_some_iff, Nat.add_zero] at h0
  obtain ⟨cs, hcs, hy⟩ := h0
  obtain ⟨p, hp, hb⟩ := hel cs y hy
  have hl := d.K_len hp
  rw [hd] at hl
  have hc := World.cells?_some hcs
  refine ⟨p :: l, by simp [h1], fun j q hq => ?_, ?_⟩
  ·cases j with
   | zero =>
    simp at hq; subst hq
    refine ⟨cs, hl, hp, fun i u hu => ?_⟩
    have hi : i < z := by have := (List.getElem?_eq_some_iff.1 hu).1; omega
    rw [Nat.add_zero]
    have := hc.2.2 i hi
    rw [hu] at this
    rw [← this, Addr.add_add]
   | succ j =>
    obtain ⟨cs', k0, k1, k2⟩ := h2 j q (by simpa using hq)
    exact ⟨cs', k0, k1, by rw [show off + (j + 1) = off + 1 + j by omega]; exact k2⟩
  ·simp only [List.map_cons, List.sum_cons, Rows.uptoBulkAll]; omega
theorem open_sliceN {H : Type} {enc : TypeId × Value → H} {P : Program} {w : World} {t e : TypeId} {z : Nat} {α : Type} (d : Kd α) (hd : d.sz = z) (B : α → Nat) (ht : P.underlying t = some (.slice e)) (hc : P.cellsOf e = z)
  (hel : ∀ n cs x, DataW.trod enc P w 0 (fun _ => true) true n e cs = some x → ∃ p : α, d.K w p cs ∧ B p ≤ Rows.uptoBulk x.1)
  {fuel : Nat} {cs : List Value} {x : DataW H × List MemPlace} (h : DataW.trod enc P w 0 (fun _ => true) true fuel t cs = some x) :
  ∃ (l : List α) (A : Option Addr) (c : Nat), cs = [.slice A l.length c] ∧ l.length ≤ c ∧ d.C w A l.length l ∧ (l.map B).sum + 1 ≤ Rows.uptoBulk x.1 := by
 rcases DataW.trod_slice ht h with ⟨rfl, rfl⟩ | ⟨a, len, cap, elems, rest, n, _, rfl, rfl, hb, hl, hm, hlen, hes, hsp, hns⟩
 ·exact ⟨[], none, 0, rfl, Nat.le_refl _, ⟨rfl, by simp, fun h => absurd h (by simp)⟩, by simp [Rows.uptoBulk]⟩
 ·obtain ⟨l, h1, h2, h3⟩ := open_elemsN (enc := enc) (P := P) (e := e) (n := n) d hd B a (hel n) elems 0 (fun i hi => by
   have := hes i (by omega)
   rw [hc] at this
   rw [Nat.zero_add]; exact this)
  have hll : l.length = len := by omega
  refine ⟨l, some a, cap, by rw [hll], by omega, ⟨rfl, by unfold maxLen at hm; omega, fun _ => ⟨a, rfl, fun j p hj => ?_⟩⟩, ?_⟩
  ·obtain ⟨cs, k0, k1, k2⟩ := h2 j p hj
   refine ⟨cs, k0.trans hd.symm, k1, fun i v hi => ?_⟩
   have := k2 i v hi
   rw [Nat.zero_add] at this
   rw [hd]; exact this
  ·simp only [Rows.uptoBulk]; omega
def incB (p : S35) : Nat := p.f0.size + p.f1.size + 1
set_option maxRecDepth 100000 in
theorem open_incs {H : Type} {enc : TypeId × Value → H} {w : World} {t : TypeId} (ht : Tryz.prog.underlying t = some (.slice 35))
  {a : Option Addr} {len cap : Nat} {d : DataW H} {ps : List MemPlace} (h : DataW.Trod enc Tryz.prog w 0 (fun _ => true) true t (.slice a len cap) d ps) :
  ∃ l : List S35, len = l.length ∧ len ≤ cap ∧ Kd.C k35 w a l.length l ∧ (l.map incB).sum ≤ Rows.uptoBulk d := by
 obtain ⟨fuel, hf⟩ := h
 obtain ⟨l, A, c, h1, h2, h3, h4⟩ := open_sliceN (z := 3) k35 rfl incB ht (by kernel_rfl) (fun n cs x hx => by
  obtain ⟨y0, y1, y2, n', rfl, hl, e0, e1, e2⟩ := Go.Deep.trod_struct3 Tryz.underlying35 hx
  obtain ⟨s0, c0, rfl, _⟩ := DataW.trod_string Tryz.underlying9 e0
  obtain ⟨s1, c1, rfl, _⟩ := DataW.trod_string Tryz.underlying9 e1
  obtain ⟨z, c2, rfl, _⟩ := DataW.trod_int Tryz.underlying3 e2
  have hl3 : cs.length = 3 := by rw [hl]; kernel_rfl
  match cs, hl3, c0, c1, c2 with
  | [v0, v1, v2], _, c0, c1, c2 =>
   have d0 : v0 = .string s0 := by
    have : ([v0, v1, v2].drop 0).take (Tryz.prog.cellsOf 9) = [.string s0] := c0
    rw [show Tryz.prog.cellsOf 9 = 1 by kernel_rfl] at this
    simpa using this
   have d1 : v1 = .string s1 := by
    have : ([v0, v1, v2].drop 1).take (Tryz.prog.cellsOf 9) = [.string s1] := c1
    rw [show Tryz.prog.cellsOf 9 = 1 by kernel_rfl] at this
    simpa using this
   have d2 : v2 = .int .i64 z := by
    have : ([v0, v1, v2].drop 2).take (Tryz.prog.cellsOf 3) = [.int .i64 z] := c2
    rw [show Tryz.prog.cellsOf 3 = 1 by kernel_rfl] at this
    simpa using this
   subst d0 d1 d2
   refine ⟨⟨s0, s1, z⟩, k35_mk _ _, ?_⟩
   have e3 : ∀ s : ByteArray, s.data.toList.length = s.size := fun s => by rw [Array.length_toList]; rfl
   unfold incB
   simp only [Rows.uptoBulk, Rows.uptoBulkAll, e3]; omega) hf
 simp [Value.cells] at h1
 obtain ⟨rfl, rfl, rfl⟩ := h1
 exact ⟨l, rfl, h2, h3, by have : (l.map incB).sum + 1 ≤ Rows.uptoBulk d := h4; omega⟩
theorem incs_mem {l : List S35} {s : S35} (h : s ∈ l) : s.f0.size + s.f1.size + 1 ≤ (l.map incB).sum := by
 induction l with
 | nil => cases h
 | cons x r ih =>
  cases List.mem_cons.1 h with
  | inl e => subst e; simp [incB]
  | inr e => have := ih e; simp; omega
theorem incs_len (l : List S35) : l.length ≤ (l.map incB).sum := by
 induction l with
 | nil => simp
 | cons x r ih => simp [incB]; omega
end Go.Proofs.YtifachjefpcgcaaGreatDoor.Opens
