import Derived.Test.YtifachjefpcgcaaGreatDoorGPD
import Derived.Test.YtifachjefpcgcaaGreatDoorGP1
import Derived.Test.YtifachjefpcgcaaGreatDoorGP2
import Derived.Test.YtifachjefpcgcaaGreatDoorGP18
namespace Go.Proofs.YtifachjefpcgcaaGreatDoor.P
open Go.RowKit Go.Proofs.YtifachjefpcgcaaGreatDoorW.PrintWords Go.Proofs.YtifachjefpcgcaaGreatDoorW.PrintLast Go.Proofs.YtifachjefpcgcaaGreatDoorW.PrintMore
attribute [local go_sem] max2_int min2_int max_two min_two max_three min_three max_four min_four
set_option linter.unusedVariables false
set_option linter.unusedSimpArgs false
attribute [local go_sem high] eqA26 eqA35
theorem found1_idle (p q r : Addr) (w : World) :
  CallsD Tryz.prog 37 #[.pointer (some p), .pointer (some q), .pointer (some r)] .returning w fun e u' w' => e = .returned (.tuple #[]) ∧ u' = .returning ∧ w' = w := by
 have hnil : ∀ w : World, (binOp BinOp.eql 20 .nilIface .nilIface).run Tryz.prog w = .ok (.bool true) w := fun _ => by kernel_rfl
 refine callsD_of_wpS Tryz.func37 rfl fun c₀ cs hu => ?_
 apply wpS_seq
 apply wpS_region
 simp [wpOpsS, go_sem, recoverD, hu, Tryz.ntmps37, Exit.thenS]
 refine wpS_of_wp ?_
 simp only [Array.replicate_succ, Array.replicate_zero, List.push_toArray, List.append_toArray, List.nil_append, List.cons_append, List.setIfInBounds_toArray, List.set_cons_succ, List.set_cons_zero]
 go_wp2
 cases c₀
 simp_all [bodyPostS, results, Tryz.results37]
set_option maxHeartbeats 8000000 in
set_option maxRecDepth 100000 in
theorem found1_caught (gl ge gf : Nat) (v : Value) (x y z a b : Int) (w0 w : World) (hB : Below w0.heap.size w0 w) (hl : w.heap[gl]? = some (.cells #[v] 22 (0, 0))) (he : w.heap[ge]? = some (.cells #[.int .i64 x] 3 (0, 0))) (hf : w.heap[gf]? = some (.cells #[.int .i64 y, .int .i64 z] 26 (0, 0)))
  (hBl : w0.heap.size ≤ gl) (hBe : w0.heap.size ≤ ge) (hBf : w0.heap.size ≤ gf) (hle : gl ≠ ge) (hlf : gl ≠ gf) (hef : ge ≠ gf) :
  CallsD Tryz.prog 37 #[.pointer (some ⟨gl, 0, none⟩), .pointer (some ⟨ge, 0, none⟩), .pointer (some ⟨gf, 0, none⟩)] (.panicking [{ v := .iface 26 (.agg #[.int .i64 a, .int .i64 b]), recovered := false }]) w fun e u' w' => e = .returned (.tuple #[]) ∧ u' = .panicking [{ v := .iface 26 (.agg #[.int .i64 a, .int .i64 b]), recovered := true }] ∧ Below w0.heap.size w0 w' ∧ w'.heap[gl]? = some (.cells #[.slice none 0 0] 22 (0, 0)) ∧ w'.heap[ge]? = some (.cells #[.int .i64 0] 3 (0, 0)) ∧ w'.heap[gf]? = some (.cells #[.int .i64 a, .int .i64 b] 26 (0, 0)) := by
 have hnil : ∀ w : World, (binOp BinOp.eql 20 (.iface 26 (.agg #[.int .i64 a, .int .i64 b])) .nilIface).run Tryz.prog w = .ok (.bool false) w := fun _ => by kernel_rfl
 have hta : ∀ w : World, (Instr.typeAssert (.iface 26 (.agg #[.int .i64 a, .int .i64 b])) 20 26 true).run Tryz.prog w = .ok (.tuple #[.agg #[.int .i64 a, .int .i64 b], .bool true]) w := fun _ => by kernel_rfl
 have huF := Tryz.underlying26
 refine callsD_of_wpS Tryz.func37 rfl fun c₀ cs hu => ?_
 apply wpS_seq
 apply wpS_region
 simp [wpOpsS, go_sem, recoverD, hu, Tryz.ntmps37, Exit.thenS]
 refine wpS_of_wp ?_
 simp only [Array.replicate_succ, Array.replicate_zero, List.push_toArray, List.append_toArray, List.nil_append, List.cons_append, List.setIfInBounds_toArray, List.set_cons_succ, List.set_cons_zero]
 clear hu
 have HB := Aside0.mk hB
 have HL := Aside0.mk hl
 have HE := Aside0.mk he
 have HF := Aside0.mk hf
 have n1 := Aside0.mk hle
 have n2 := Aside0.mk hlf
 have n3 := Aside0.mk hef
 clear hB hl he hf hle hlf hef
 go_wp2
 have hX := heap_alloc_new w (.cells #[.int .i64 a, .int .i64 b] 26)
 have HX := Aside0.mk hX
 have nX1 := Aside0.mk (Nat.ne_of_lt (blk_lt HL.out))
 have nX2 := Aside0.mk (Nat.ne_of_lt (blk_lt HE.out))
 have nX3 := Aside0.mk (Nat.ne_of_lt (blk_lt HF.out))
 have nl := Aside0.mk (blk_alloc HL.out (.cells #[.int .i64 a, .int .i64 b] 26))
 have ne := Aside0.mk (blk_alloc HE.out (.cells #[.int .i64 a, .int .i64 b] 26))
 have nf := Aside0.mk (blk_alloc HF.out (.cells #[.int .i64 a, .int .i64 b] 26))
 have nb := Aside0.mk (below_alloc HB.out (.cells #[.int .i64 a, .int .i64 b] 26))
 clear hX HL HE HF HB
 generalize w.alloc (.cells #[.int .i64 a, .int .i64 b] 26) = w1 at HX nl ne nf nb ⊢
 generalize w.heap.size = gb at HX nX1 nX2 nX3 ⊢
 refine start_ (n := 4) (S := fun w' => w'.cell? ⟨gb, 0, none⟩ = some (.int .i64 a) ∧ w'.cell? ⟨gb, 1, none⟩ = some (.int .i64 b)) (ds := []) #[false, false, false, false] (by kernel_rfl) rfl rfl ⟨(blk_cell HX.out 0).trans rfl, (blk_cell HX.out 1).trans rfl⟩ (fun hHeld => ?_)
 have HX := Aside0.mk (blk_drew HX.out)
 have HL := Aside0.mk (blk_drew nl.out)
 have HE := Aside0.mk (blk_drew ne.out)
 have HF := Aside0.mk (blk_drew nf.out)
 have HB := Aside0.mk (below_drew1 nb.out)
 clear nl ne nf nb
 generalize w1.drew = w2 at HX HL HE HF HB hHeld ⊢
 refine take_ (i := 0) (N := some 12) (v := ?_) (a' := ?_) #[true, false, false, false] rfl rfl (by kernel_rfl) (fun _ _ _ h => h) (Or.inl ⟨by rfl, ?_⟩) hHeld ?_ ?_
 rotate_left
 ·rintro w' ⟨s0, s1⟩
  go_simp
  with_reducible rfl
 rotate_left
 ·simp only [Act.put, List.setIfInBounds_toArray, List.set_cons_zero, List.set_cons_succ, i64_w, i32_w]
  rfl
 refine one_ (i := 1) (N := none) #[true, true, false, false] rfl rfl (by kernel_rfl) (by decide) (fun K hK => ?_)
 have hs1 : w2.cell? ⟨gl, 0, none⟩ = some v := (blk_cell HL.out 0).trans rfl
 have hfs1 := blk_frozen HL.out 0
 refine skip_ (w1 := ?_) (by rfl) rfl ?_ ?_
 rotate_left
 ·go_simp
  rfl
 refine hK.out _ _ ⟨(cell_far (p := ⟨gl, _, none⟩) nX1.out.symm _).trans hHeld.1, (cell_far (p := ⟨gl, _, none⟩) nX1.out.symm _).trans hHeld.2⟩ (fun hHeld => ?_)
 clear hK K hs1 hfs1
 have HX' := Aside0.mk (blk_far (p := ⟨gl, 0, none⟩) HX.out nX1.out.symm (.slice none 0 0))
 have HL' := Aside0.mk (blk_put HL.out 0 (.slice none 0 0) rfl)
 have HE' := Aside0.mk (blk_far (p := ⟨gl, 0, none⟩) HE.out n1.out.symm (.slice none 0 0))
 have HF' := Aside0.mk (blk_far (p := ⟨gl, 0, none⟩) HF.out n2.out.symm (.slice none 0 0))
 have HB' := Aside0.mk (below_set (j := 0) (v := .slice none 0 0) HB.out hBl)
 clear HX HL HE HF HB
 generalize w2.setCell ⟨gl, 0, none⟩ (.slice none 0 0) = w3 at HX' HL' HE' HF' HB' hHeld ⊢
 refine one_ (i := 2) (N := none) #[true, true, true, false] rfl rfl (by kernel_rfl) (by decide) (fun K hK => ?_)
 have hs1 : w3.cell? ⟨ge, 0, none⟩ = some (.int .i64 x) := (blk_cell HE'.out 0).trans rfl
 have hfs1 := blk_frozen HE'.out 0
 refine skip_ (w1 := ?_) (by rfl) rfl ?_ ?_
 rotate_left
 ·go_simp
  rfl
 refine hK.out _ _ ⟨(cell_far (p := ⟨ge, _, none⟩) nX2.out.symm _).trans hHeld.1, (cell_far (p := ⟨ge, _, none⟩) nX2.out.symm _).trans hHeld.2⟩ (fun hHeld => ?_)
 clear hK K hs1 hfs1
 have HX := Aside0.mk (blk_far (p := ⟨ge, 0, none⟩) HX'.out nX2.out.symm (.int .i64 0))
 have HL := Aside0.mk (blk_far (p := ⟨ge, 0, none⟩) HL'.out n1.out (.int .i64 0))
 have HE := Aside0.mk (blk_put HE'.out 0 (.int .i64 0) rfl)
 have HF := Aside0.mk (blk_far (p := ⟨ge, 0, none⟩) HF'.out n3.out.symm (.int .i64 0))
 have HB := Aside0.mk (below_set (j := 0) (v := .int .i64 0) HB'.out hBe)
 clear HX' HL' HE' HF' HB'
 generalize w3.setCell ⟨ge, 0, none⟩ (.int .i64 0) = w4 at HX HL HE HF HB hHeld ⊢
 refine one_ (i := 3) (N := none) #[true, true, true, true] rfl rfl (by kernel_rfl) (by decide) (fun K hK => ?_)
 have hs1 : w4.cell? ⟨gf, 0, none⟩ = some (.int .i64 y) := (blk_cell HF.out 0).trans rfl
 have hfs1 := blk_frozen HF.out 0
 have hs2 : w4.cell? ⟨gf, 1, none⟩ = some (.int .i64 z) := (blk_cell HF.out 1).trans rfl
 have hfs2 := blk_frozen HF.out 1
 refine skip_ (w1 := ?_) (by rfl) rfl ?_ ?_
 rotate_left
 ·go_simp
  rfl
 refine hK.out _ _ ⟨(cell_far (p := ⟨gf, _, none⟩) nX3.out.symm _).trans ((cell_far (p := ⟨gf, _, none⟩) nX3.out.symm _).trans hHeld.1), (cell_far (p := ⟨gf, _, none⟩) nX3.out.symm _).trans ((cell_far (p := ⟨gf, _, none⟩) nX3.out.symm _).trans hHeld.2)⟩ (fun hHeld => ?_)
 clear hK K hs1 hfs1 hs2 hfs2
 have HL' := Aside0.mk (blk_far (p := ⟨gf, 1, none⟩) (blk_far (p := ⟨gf, 0, none⟩) HL.out n2.out (.int .i64 a)) n2.out (.int .i64 b))
 have HE' := Aside0.mk (blk_far (p := ⟨gf, 1, none⟩) (blk_far (p := ⟨gf, 0, none⟩) HE.out n3.out (.int .i64 a)) n3.out (.int .i64 b))
 have HF' := Aside0.mk (blk_put (blk_put HF.out 0 (.int .i64 a) rfl) 1 (.int .i64 b) rfl)
 have HB' := Aside0.mk (below_set (j := 1) (v := .int .i64 b) (below_set (j := 0) (v := .int .i64 a) HB.out hBf) hBf)
 refine done_ (by kernel_rfl) ?_
 try go_wp2
 exact ⟨rfl, _, rfl, _, results_none rfl _ _ _, rfl, rfl, HB'.out, HL'.out, HE'.out, HF'.out⟩
theorem at_new (w : World) (o : Obj) (n : Nat) (h : n = w.heap.size) : (w.alloc o).heap[n]? = some o := by subst h; exact heap_alloc_new w o
theorem found_res {tmps : Array Value} {w : World} {gl ge gf : Nat} {v : Value} {x y z : Int} (t2 : tmps.getD 2 undef = .pointer (some ⟨gl, 0, none⟩)) (t3 : tmps.getD 3 undef = .pointer (some ⟨ge, 0, none⟩)) (t4 : tmps.getD 4 undef = .pointer (some ⟨gf, 0, none⟩))
  (hl : w.heap[gl]? = some (.cells #[v] 22 (0, 0))) (he : w.heap[ge]? = some (.cells #[.int .i64 x] 3 (0, 0))) (hf : w.heap[gf]? = some (.cells #[.int .i64 y, .int .i64 z] 26 (0, 0))) :
  (results Tryz.f19 tmps).run Tryz.prog w = .ok (.tuple #[v, .int .i64 x, .agg #[.int .i64 y, .int .i64 z]]) w := by
 have huF := Tryz.underlying26
 have huL := Tryz.underlying22
 have huN := Tryz.underlying3
 have c0 : w.cell? ⟨gl, 0, none⟩ = some v := (blk_cell hl 0).trans rfl
 have c1 : w.cell? ⟨ge, 0, none⟩ = some (.int .i64 x) := (blk_cell he 0).trans rfl
 have c2 : w.cell? ⟨gf, 0, none⟩ = some (.int .i64 y) := (blk_cell hf 0).trans rfl
 have c3 : w.cell? ⟨gf, 1, none⟩ = some (.int .i64 z) := (blk_cell hf 1).trans rfl
 clear hl he hf
 simp only [Array.getD_eq_getD_getElem?] at t2 t3 t4
 simp [results, Tryz.results19, go_sem, t2, t3, t4, c0, c1, c2, c3, asAddr, huL, huN, huF]
set_option maxHeartbeats 8000000 in
set_option maxRecDepth 100000 in
theorem scan_found.calls (k : Nat) (a0 : ByteArray) (r1 : List (S35)) (r2 : Int) (r3 : Int) (r4 : Int) (w : World) (h : scan_found.f k a0 = some (r1, r2, r3, r4)) (hI_ : Inv w) :
  Calls Tryz.prog 19 #[.string a0] w fun e w' => ∃ v0_ : Value, e = .returned (.tuple #[v0_, .int .i64 r2, .agg #[.int .i64 r3, .int .i64 r4]]) ∧ Kd.R k35 35 w' w.heap.size (fun _ => True) v0_ r1 ∧ Below w.heap.size w w' := by
 have HI := Aside0.mk hI_
 clear hI_
 have hmf : ∀ (fn : Fn) (first cap : Array Value) (w : World), (Instr.makeFunc fn first cap).run Tryz.prog w = .ok (.func fn first cap) w := fun _ _ _ _ => rfl
 have huF := Tryz.underlying26
 have huR := Tryz.underlying76
 have huI := Tryz.underlying35
 unfold scan_found.f at h
 by_cases c1 : (a0.size : Int) > 65536
 ·rw [if_pos c1] at h
  have c3b0 : decide (65536 < (a0.size : Int)) = true := decide_eq_true c1
  have c3b1 : decide (65536 < a0.size) = true := decide_eq_true (by omega)
  clear c1
  simp only [Option.some.injEq, Prod.mk.injEq] at h
  obtain ⟨rfl, rfl, rfl, rfl⟩ := h
  go_enter_defers Tryz.func19, Tryz.ntmps19
  go_wp2
  refine ⟨_, found_res rfl rfl rfl (blk_alloc (blk_alloc (at_new _ _ _ rfl) _) _) (blk_alloc (at_new _ _ _ (by simp)) _) (at_new _ _ _ (by simp)), _, rfl, Kd.R_nil _ _ _ _ _, ?_⟩
  exact below_alloc (below_alloc (below_alloc (Below.refl _ _) _) _) _
 ·rw [if_neg c1] at h
  have c3b0 : decide (65536 < (a0.size : Int)) = false := decide_eq_false c1
  have c3b1 : decide (65536 < a0.size) = false := decide_eq_false (by omega)
  clear c1
  have H := Aside0.mk h
  clear h
  go_enter_defers Tryz.func19, Tryz.ntmps19
  go_wp2
  have nl := Aside0.mk (show ((((w.alloc (.cells #[.slice none 0 0] 22)).alloc (.cells #[.int .i64 0] 3)).alloc (.cells #[.int .i64 0, .int .i64 0] 26)).alloc (.cells #[.string a0, .int .i64 0] 76)).heap[w.heap.size]? = some (.cells #[.slice none 0 0] 22 (0, 0)) from blk_alloc (blk_alloc (blk_alloc (at_new _ _ _ rfl) _) _) _)
  have ne := Aside0.mk (show ((((w.alloc (.cells #[.slice none 0 0] 22)).alloc (.cells #[.int .i64 0] 3)).alloc (.cells #[.int .i64 0, .int .i64 0] 26)).alloc (.cells #[.string a0, .int .i64 0] 76)).heap[w.heap.size + 1]? = some (.cells #[.int .i64 0] 3 (0, 0)) from blk_alloc (blk_alloc (at_new _ _ _ (by simp)) _) _)
  have nf := Aside0.mk (show ((((w.alloc (.cells #[.slice none 0 0] 22)).alloc (.cells #[.int .i64 0] 3)).alloc (.cells #[.int .i64 0, .int .i64 0] 26)).alloc (.cells #[.string a0, .int .i64 0] 76)).heap[w.heap.size + 1 + 1]? = some (.cells #[.int .i64 0, .int .i64 0] 26 (0, 0)) from blk_alloc (at_new _ _ _ (by simp)) _)
  have nr := Aside0.mk (show IsS76 w ((((w.alloc (.cells #[.slice none 0 0] 22)).alloc (.cells #[.int .i64 0] 3)).alloc (.cells #[.int .i64 0, .int .i64 0] 26)).alloc (.cells #[.string a0, .int .i64 0] 76)) (w.heap.size + 1 + 1 + 1) a0 0 from ⟨at_new _ _ _ (by simp), by omega⟩)
  have nb := Aside0.mk (show Below w.heap.size w ((((w.alloc (.cells #[.slice none 0 0] 22)).alloc (.cells #[.int .i64 0] 3)).alloc (.cells #[.int .i64 0, .int .i64 0] 26)).alloc (.cells #[.string a0, .int .i64 0] 76)) from below_alloc (below_alloc (below_alloc (below_alloc (Below.refl _ _) _) _) _) _)
  generalize ((((w.alloc (.cells #[.slice none 0 0] 22)).alloc (.cells #[.int .i64 0] 3)).alloc (.cells #[.int .i64 0, .int .i64 0] 26)).alloc (.cells #[.string a0, .int .i64 0] 76)) = w1 at nl ne nf nr nb ⊢
  obtain ⟨gl, hgl⟩ : ∃ g, g = w.heap.size := ⟨_, rfl⟩
  obtain ⟨ge, hge⟩ : ∃ g, g = w.heap.size + 1 := ⟨_, rfl⟩
  obtain ⟨gf, hgf⟩ : ∃ g, g = w.heap.size + 1 + 1 := ⟨_, rfl⟩
  obtain ⟨gr, hgr⟩ : ∃ g, g = w.heap.size + 1 + 1 + 1 := ⟨_, rfl⟩
  have GL := Aside0.mk (show w.heap.size ≤ gl by omega)
  have GE := Aside0.mk (show w.heap.size ≤ ge by omega)
  have GF := Aside0.mk (show w.heap.size ≤ gf by omega)
  have n1 := Aside0.mk (show gl ≠ ge by omega)
  have n2 := Aside0.mk (show gl ≠ gf by omega)
  have n3 := Aside0.mk (show ge ≠ gf by omega)
  have m1 := Aside0.mk (show gl ≠ gr by omega)
  have m2 := Aside0.mk (show ge ≠ gr by omega)
  have m3 := Aside0.mk (show gf ≠ gr by omega)
  rw [← hgr] at nr
  rw [← hgf] at nf
  rw [← hge] at ne
  rw [← hgl] at nl
  rw [← hgr, ← hgf, ← hge, ← hgl]
  clear hgl hge hgf hgr
  go_loopg [] k (fun kq w' => ∃ (x : List S35) (i : Int) (u : Value) (s' : ByteArray), Aside0 (scan_found.l0 kq s' x i = some (r1, r2, r3, r4)) ∧ Aside0 (kq ≤ k) ∧ Aside0 (Kd.R k35 35 w' w.heap.size (fun _ => True) u x) ∧ Aside0 (w'.heap[gl]? = some (.cells #[u] 22 (0, 0))) ∧ Aside0 (w'.heap[ge]? = some (.cells #[.int .i64 0] 3 (0, 0))) ∧ Aside0 (w'.heap[gf]? = some (.cells #[.int .i64 0, .int .i64 0] 26 (0, 0))) ∧ Aside0 (IsS76 w w' gr s' i) ∧ Aside0 (Below w.heap.size w w'))
  case atStart => exact ⟨[], 0, _, a0, H, ⟨Nat.le_refl _⟩, ⟨Kd.R_nil _ _ _ _ _⟩, nl, ne, nf, nr, nb⟩
  case round =>
   clear nl ne nf nr nb H
   obtain ⟨x, i, u, s', HA, HK1, HO, nl, ne, nf, nr, nb⟩ := hrel
   cases gk with
   | zero => exact absurd HA.out (by simp [scan_found.l0])
   | succ k1 =>
    have H := HA.out
    clear HA
    simp only [scan_found.l0] at H
    replace H := Option.bind_eq_some_iff.mp H
    obtain ⟨⟨t1, t2, t3, t4, t5, t6, t7, t8, t9⟩, A0, H⟩ := H
    have A := Aside0.mk A0
    clear A0
    obtain ⟨A7, c7, rfl⟩ := Kd.R_slice HO.out
    cases t1 with
    | true =>
     have H := (show some (([] : List S35), (0 : Int), t2, t3) = some (r1, r2, r3, r4) from H)
     simp only [Option.some.injEq, Prod.mk.injEq] at H
     obtain ⟨rfl, rfl, rfl, rfl⟩ := H
     go_wp2_with (first | ((with_reducible refine gate_callee (f := 38) rfl ?_); refine goesP_ (some 18) rfl rfl Tryz.func38 (by kernel_rfl) rfl #[.pointer (some ⟨gr, 0, none⟩)] rfl (by (try simp only [List.map_toArray, List.map_cons, List.map_nil]); first | done | rfl) ?_; (refine (scan_reader_include.calls k1 gr s' i true t2 t3 t4 t5 t6 t7 t8 t9 w _ nr.out nb.out A.out HI.out).mono ?_); rintro e w2 ⟨rfl, hS, hb, hk⟩; refine ⟨_, rfl, ?_⟩))
     refine leaves_cons (f := 37) (args := #[.pointer (some ⟨gl, 0, none⟩), .pointer (some ⟨ge, 0, none⟩), .pointer (some ⟨gf, 0, none⟩)]) (by simp) (by simp [go_sem]) ?_
     refine (found1_caught gl ge gf (.slice A7 x.length c7) 0 0 0 t2 t3 w w2 hb (KeepBut.blk hk nl.out m1.out (by simp)) (KeepBut.blk hk ne.out m2.out (by simp)) (KeepBut.blk hk nf.out m3.out (by simp)) GL.out GE.out GF.out n1.out n2.out n3.out).mono ?_
     rintro e u' w3 ⟨rfl, rfl, hB3, h1, h2, h3⟩
     exact ⟨_, found_res rfl rfl rfl h1 h2 h3, _, rfl, Kd.R_nil _ _ _ _ _, hB3⟩
    | false =>
     cases t7 with
     | false =>
      have H := (show some (x, t9, (0 : Int), (0 : Int)) = some (r1, r2, r3, r4) from H)
      simp only [Option.some.injEq, Prod.mk.injEq] at H
      obtain ⟨rfl, rfl, rfl, rfl⟩ := H
      go_wp2_with (first | ((with_reducible refine gate_callee (f := 38) rfl ?_); refine goesL_ (some 18) rfl rfl Tryz.func38 (by kernel_rfl) rfl #[.pointer (some ⟨gr, 0, none⟩)] rfl (by (try simp only [List.map_toArray, List.map_cons, List.map_nil]); first | done | rfl) ?_; (refine (scan_reader_include.calls k1 gr s' i false t2 t3 t4 t5 t6 false t8 t9 w _ nr.out nb.out A.out HI.out).mono ?_); rintro e w2 ⟨rfl, hS, hb, hk⟩; refine ⟨_, rfl, ?_⟩; have HS := Aside0.mk hS; have HB2 := Aside0.mk hb; have HO2 := Aside0.mk (Kd.R_mono (ok' := fun _ => True) (Kd.R_keep (Kd.R_types HO.out nr.out.1 (by decide)) hk (fun _ h_ => h_.2)) (fun _ _ => trivial)); have nl2 := Aside0.mk (KeepBut.blk hk nl.out m1.out (by simp)); have ne2 := Aside0.mk (KeepBut.blk hk ne.out m2.out (by simp)); have nf2 := Aside0.mk (KeepBut.blk hk nf.out m3.out (by simp)); clear hS hb hk HO nl ne nf nr nb; have hcl2 : ∀ o, (w2.alloc o).cell? ⟨gl, 0, none⟩ = some (.slice A7 x.length c7) := fun o => (blk_cell (blk_alloc nl2.out o) 0).trans rfl))
      have HO3 := Aside0.mk (Kd.R_alloc HO2.out (.cells #[.string t4, .string t5, .int .i64 t6] 35))
      have nl3 := Aside0.mk (blk_alloc nl2.out (.cells #[.string t4, .string t5, .int .i64 t6] 35))
      have ne3 := Aside0.mk (blk_alloc ne2.out (.cells #[.string t4, .string t5, .int .i64 t6] 35))
      have nf3 := Aside0.mk (blk_alloc nf2.out (.cells #[.string t4, .string t5, .int .i64 t6] 35))
      have HS3 := Aside0.mk (IsS76.alloc HS.out (.cells #[.string t4, .string t5, .int .i64 t6] 35))
      have HB3 := Aside0.mk (below_alloc HB2.out (.cells #[.string t4, .string t5, .int .i64 t6] 35))
      clear HO2 nl2 ne2 nf2 HS HB2 hcl2
      generalize w2.alloc (.cells #[.string t4, .string t5, .int .i64 t6] 35) = w3 at HO3 nl3 ne3 nf3 HS3 HB3 ⊢
      refine wp_region_noPanic ?_
      refine start_ (n := 9) (S := fun w' => w'.cell? ⟨gl, 0, none⟩ = some (.slice A7 x.length c7) ∧ w'.cell? ⟨gr, 1, none⟩ = some (.int .i64 t9)) (ds := []) #[false, false, false, false, false, false, false, false, false] (by kernel_rfl) rfl rfl ⟨(blk_cell nl3.out 0).trans rfl, (blk_cell HS3.out.1 1).trans rfl⟩ (fun hHeld => ?_)
      have HO := Aside0.mk (Kd.R_drew HO3.out)
      have nl := Aside0.mk (blk_drew nl3.out)
      have ne := Aside0.mk (blk_drew ne3.out)
      have nf := Aside0.mk (blk_drew nf3.out)
      have HS := Aside0.mk (IsS76.drew HS3.out)
      have HB := Aside0.mk (below_drew1 HB3.out)
      clear HO3 nl3 ne3 nf3 HS3 HB3
      generalize w3.drew = w4 at HO nl ne nf HS HB hHeld ⊢
      refine pure_ (i := 1) (N := some 24) (v := ?_) (a' := ?_) #[false, true, false, false, false, false, false, false, false] rfl rfl (by kernel_rfl) (fun _ _ _ h => h) (Or.inl ⟨by rfl, ?_⟩) ?_ ?_
      rotate_left
      ·intro w'
       go_simp
       with_reducible rfl
      rotate_left
      ·simp only [Act.put, List.setIfInBounds_toArray, List.set_cons_zero, List.set_cons_succ, i64_w, i32_w]
       rfl
      refine pure_ (i := 2) (N := some 25) (v := ?_) (a' := ?_) #[false, true, true, false, false, false, false, false, false] rfl rfl (by kernel_rfl) (fun _ _ _ h => h) (Or.inl ⟨by rfl, ?_⟩) ?_ ?_
      rotate_left
      ·intro w'
       go_simp
       with_reducible rfl
      rotate_left
      ·simp only [Act.put, List.setIfInBounds_toArray, List.set_cons_zero, List.set_cons_succ, i64_w, i32_w]
       rfl
      refine pure_ (i := 3) (N := some 26) (v := ?_) (a' := ?_) #[false, true, true, true, false, false, false, false, false] rfl rfl (by kernel_rfl) (fun _ _ _ h => h) (Or.inl ⟨by rfl, ?_⟩) ?_ ?_
      rotate_left
      ·intro w'
       go_simp
       with_reducible rfl
      rotate_left
      ·simp only [Act.put, List.setIfInBounds_toArray, List.set_cons_zero, List.set_cons_succ, i64_w, i32_w]
       rfl
      refine pure_ (i := 5) (N := some 28) (v := ?_) (a' := ?_) #[false, true, true, true, false, true, false, false, false] rfl rfl (by kernel_rfl) (fun _ _ _ h => h) (Or.inl ⟨by rfl, ?_⟩) ?_ ?_
      rotate_left
      ·intro w'
       go_simp
       with_reducible rfl
      rotate_left
      ·simp only [Act.put, List.setIfInBounds_toArray, List.set_cons_zero, List.set_cons_succ, i64_w, i32_w]
       rfl
      refine take_ (i := 0) (N := some 23) (v := ?_) (a' := ?_) #[true, true, true, true, false, true, false, false, false] rfl rfl (by kernel_rfl) (fun _ _ _ h => h) (Or.inl ⟨by rfl, ?_⟩) hHeld ?_ ?_
      rotate_left
      ·rintro w' ⟨s0, s1⟩
       go_simp
       with_reducible rfl
      rotate_left
      ·simp only [Act.put, List.setIfInBounds_toArray, List.set_cons_zero, List.set_cons_succ, i64_w, i32_w]
       rfl
      refine take_ (i := 4) (N := some 27) (v := ?_) (a' := ?_) #[true, true, true, true, true, true, false, false, false] rfl rfl (by kernel_rfl) (fun _ _ _ h => h) (Or.inl ⟨by rfl, ?_⟩) hHeld ?_ ?_
      rotate_left
      ·rintro w' ⟨s0, s1⟩
       go_simp
       with_reducible rfl
      rotate_left
      ·simp only [Act.put, List.setIfInBounds_toArray, List.set_cons_zero, List.set_cons_succ, i64_w, i32_w]
       rfl
      refine one_ (i := 6) (N := none) #[true, true, true, true, true, true, true, false, false] rfl rfl (by kernel_rfl) (by decide) (fun K hK => ?_)
      have hs1 : w4.cell? ⟨gl, 0, none⟩ = some (.slice A7 x.length c7) := hHeld.1
      have hfs1 := blk_frozen nl.out 0
      refine skip_ (w1 := ?_) (by rfl) rfl ?_ ?_
      rotate_left
      ·go_simp
       rfl
      refine hK.out _ _ ⟨(blk_cell (blk_put nl.out 0 (.slice A7 x.length c7) rfl) 0).trans rfl, (cell_far (p := ⟨gl, _, none⟩) m1.out.symm _).trans hHeld.2⟩ (fun hHeld => ?_)
      clear hK K hs1 hfs1
      have HO_ := Aside0.mk (Kd.R_mono (ok' := fun _ => True) (Kd.R_far (p := ⟨gl, 0, none⟩) (Kd.R_types HO.out nl.out (by decide)) (fun _ h_ => h_.2) (.slice A7 x.length c7)) (fun _ _ => trivial))
      have nl_ := Aside0.mk (blk_put nl.out 0 (.slice A7 x.length c7) rfl)
      have ne_ := Aside0.mk (blk_far (p := ⟨gl, 0, none⟩) ne.out n1.out.symm (.slice A7 x.length c7))
      have nf_ := Aside0.mk (blk_far (p := ⟨gl, 0, none⟩) nf.out n2.out.symm (.slice A7 x.length c7))
      have HS_ := Aside0.mk (IsS76.far (p := ⟨gl, 0, none⟩) HS.out m1.out.symm (.slice A7 x.length c7))
      have HB_ := Aside0.mk (below_set (j := 0) (v := .slice A7 x.length c7) HB.out GL.out)
      clear HO nl ne nf HS HB
      have HO := HO_
      have nl := nl_
      have ne := ne_
      have nf := nf_
      have HS := HS_
      have HB := HB_
      clear HO_ nl_ ne_ nf_ HS_ HB_
      generalize w4.setCell ⟨gl, 0, none⟩ (.slice A7 x.length c7) = w5 at HO nl ne nf HS HB hHeld ⊢
      refine one_ (i := 7) (N := none) #[true, true, true, true, true, true, true, true, false] rfl rfl (by kernel_rfl) (by decide) (fun K hK => ?_)
      have hs1 : w5.cell? ⟨ge, 0, none⟩ = some (.int .i64 0) := (blk_cell ne.out 0).trans rfl
      have hfs1 := blk_frozen ne.out 0
      refine skip_ (w1 := ?_) (by rfl) rfl ?_ ?_
      rotate_left
      ·go_simp
       rfl
      refine hK.out _ _ ⟨(cell_far (p := ⟨ge, _, none⟩) n1.out _).trans hHeld.1, (cell_far (p := ⟨ge, _, none⟩) m2.out.symm _).trans hHeld.2⟩ (fun hHeld => ?_)
      clear hK K hs1 hfs1
      have HO_ := Aside0.mk (Kd.R_mono (ok' := fun _ => True) (Kd.R_far (p := ⟨ge, 0, none⟩) (Kd.R_types HO.out ne.out (by decide)) (fun _ h_ => h_.2) (.int .i64 t9)) (fun _ _ => trivial))
      have nl_ := Aside0.mk (blk_far (p := ⟨ge, 0, none⟩) nl.out n1.out (.int .i64 t9))
      have ne_ := Aside0.mk (blk_put ne.out 0 (.int .i64 t9) rfl)
      have nf_ := Aside0.mk (blk_far (p := ⟨ge, 0, none⟩) nf.out n3.out.symm (.int .i64 t9))
      have HS_ := Aside0.mk (IsS76.far (p := ⟨ge, 0, none⟩) HS.out m2.out.symm (.int .i64 t9))
      have HB_ := Aside0.mk (below_set (j := 0) (v := .int .i64 t9) HB.out GE.out)
      clear HO nl ne nf HS HB
      have HO := HO_
      have nl := nl_
      have ne := ne_
      have nf := nf_
      have HS := HS_
      have HB := HB_
      clear HO_ nl_ ne_ nf_ HS_ HB_
      generalize w5.setCell ⟨ge, 0, none⟩ (.int .i64 t9) = w6 at HO nl ne nf HS HB hHeld ⊢
      refine one_ (i := 8) (N := none) #[true, true, true, true, true, true, true, true, true] rfl rfl (by kernel_rfl) (by decide) (fun K hK => ?_)
      have hs1 : w6.cell? ⟨gf, 0, none⟩ = some (.int .i64 0) := (blk_cell nf.out 0).trans rfl
      have hfs1 := blk_frozen nf.out 0
      have hs2 : w6.cell? ⟨gf, 1, none⟩ = some (.int .i64 0) := (blk_cell nf.out 1).trans rfl
      have hfs2 := blk_frozen nf.out 1
      refine skip_ (w1 := ?_) (by rfl) rfl ?_ ?_
      rotate_left
      ·go_simp
       rfl
      refine hK.out _ _ ⟨(cell_far (p := ⟨gf, _, none⟩) n2.out _).trans ((cell_far (p := ⟨gf, _, none⟩) n2.out _).trans hHeld.1), (cell_far (p := ⟨gf, _, none⟩) m3.out.symm _).trans ((cell_far (p := ⟨gf, _, none⟩) m3.out.symm _).trans hHeld.2)⟩ (fun hHeld => ?_)
      clear hK K hs1 hfs1 hs2 hfs2
      have HO_ := Aside0.mk (Kd.R_mono (ok' := fun _ => True) (Kd.R_far (p := ⟨gf, 0, none⟩) (Kd.R_types HO.out nf.out (by decide)) (fun _ h_ => h_.2) (.int .i64 0)) (fun _ _ => trivial))
      have nl_ := Aside0.mk (blk_far (p := ⟨gf, 0, none⟩) nl.out n2.out (.int .i64 0))
      have ne_ := Aside0.mk (blk_far (p := ⟨gf, 0, none⟩) ne.out n3.out (.int .i64 0))
      have nf_ := Aside0.mk (blk_put nf.out 0 (.int .i64 0) rfl)
      have HS_ := Aside0.mk (IsS76.far (p := ⟨gf, 0, none⟩) HS.out m3.out.symm (.int .i64 0))
      have HB_ := Aside0.mk (below_set (j := 0) (v := .int .i64 0) HB.out GF.out)
      clear HO nl ne nf HS HB
      have HO := HO_
      have nl := nl_
      have ne := ne_
      have nf := nf_
      have HS := HS_
      have HB := HB_
      clear HO_ nl_ ne_ nf_ HS_ HB_
      have HO_ := Aside0.mk (Kd.R_mono (ok' := fun _ => True) (Kd.R_far (p := ⟨gf, 1, none⟩) (Kd.R_types HO.out nf.out (by decide)) (fun _ h_ => h_.2) (.int .i64 0)) (fun _ _ => trivial))
      have nl_ := Aside0.mk (blk_far (p := ⟨gf, 1, none⟩) nl.out n2.out (.int .i64 0))
      have ne_ := Aside0.mk (blk_far (p := ⟨gf, 1, none⟩) ne.out n3.out (.int .i64 0))
      have nf_ := Aside0.mk (blk_put nf.out 1 (.int .i64 0) rfl)
      have HS_ := Aside0.mk (IsS76.far (p := ⟨gf, 1, none⟩) HS.out m3.out.symm (.int .i64 0))
      have HB_ := Aside0.mk (below_set (j := 1) (v := .int .i64 0) HB.out GF.out)
      clear HO nl ne nf HS HB
      have HO := HO_
      have nl := nl_
      have ne := ne_
      have nf := nf_
      have HS := HS_
      have HB := HB_
      clear HO_ nl_ ne_ nf_ HS_ HB_
      refine done_ (by kernel_rfl) ?_
      refine NoPanic.normal ?_
      go_wp2
      refine leaves_cons (f := 37) (args := #[.pointer (some ⟨gl, 0, none⟩), .pointer (some ⟨ge, 0, none⟩), .pointer (some ⟨gf, 0, none⟩)]) (by simp) (by simp [go_sem]) ?_
      refine (found1_idle _ _ _ _).mono ?_
      rintro e u' w8 ⟨rfl, rfl, rfl⟩
      exact ⟨_, found_res rfl rfl rfl nl.out ne.out nf.out, _, rfl, HO.out, HB.out⟩
     | true =>
      have H := (show (if x.length < 3518437208883 then scan_found.l0 k1 t8 (x ++ [(⟨t4, t5, t6⟩ : S35)]) t9 else none) = some (r1, r2, r3, r4) from H)
      by_cases c5 : x.length < 3518437208883
      ·rw [if_pos c5] at H
       have LMc5 := Aside0.mk c5
       have H' := Aside0.mk H
       clear c5 H
       go_wp2_with (first | ((with_reducible refine gate_callee (f := 38) rfl ?_); refine goesL_ (some 18) rfl rfl Tryz.func38 (by kernel_rfl) rfl #[.pointer (some ⟨gr, 0, none⟩)] rfl (by (try simp only [List.map_toArray, List.map_cons, List.map_nil]); first | done | rfl) ?_; (refine (scan_reader_include.calls k1 gr s' i false t2 t3 t4 t5 t6 true t8 t9 w _ nr.out nb.out A.out HI.out).mono ?_); rintro e w2 ⟨rfl, hS, hb, hk⟩; refine ⟨_, rfl, ?_⟩; have HS := Aside0.mk hS; have HB2 := Aside0.mk hb; have HO2 := Aside0.mk (Kd.R_mono (ok' := fun _ => True) (Kd.R_keep (Kd.R_types HO.out nr.out.1 (by decide)) hk (fun _ h_ => h_.2)) (fun _ _ => trivial)); have nl2 := Aside0.mk (KeepBut.blk hk nl.out m1.out (by simp)); have ne2 := Aside0.mk (KeepBut.blk hk ne.out m2.out (by simp)); have nf2 := Aside0.mk (KeepBut.blk hk nf.out m3.out (by simp)); clear hS hb hk HO nl ne nf nr nb; have hcl2 : ∀ o, (w2.alloc o).cell? ⟨gl, 0, none⟩ = some (.slice A7 x.length c7) := fun o => (blk_cell (blk_alloc nl2.out o) 0).trans rfl) | ((with_reducible refine gate_builtin (b := .append) (xs := #[.tmp 29, .tmp 31]) rfl ?_); at_builtin; refine Kd.R_append k35 (w0 := w) w.heap.size rfl (.tmp 29) (.tmp 31) 22 35 (.agg #[(.string ⟨#[]⟩), (.string ⟨#[]⟩), (.int .i64 0)]) 40 rfl Tryz.underlying22 info35 rfl (by decide) (by omega) (.slice A7 x.length c7) x (⟨t4, t5, t6⟩ : S35) [.string t4, .string t5, .int .i64 t6] (fun _ => True) (fun _ => False) rfl (by first | (go_simp; done) | (go_simp; rfl)) ?aP (fun _ hk => hk.elim) ?aF ?aO ?aB ?aS ?aL ?_; (case aP => exact k35_mkM _ _ _ (⟨t4, t5, t6⟩ : S35)); (case aB => exact below_alloc HB2.out _); (case aF => exact fun _ _ => trivial); (case aO => exact Kd.R_alloc HO2.out _); (case aS => exact below_size (below_alloc HB2.out _)); (case aL => have := LMc5.out; omega); intro v4 w4 hR4 hB4 hg4 hat4; obtain ⟨g5, cp5, rfl, hg5a, hg5b, hg5c⟩ := Kd.R_form hR4 (by simp); clear hg5a hg5b hg5c; have HR4 := Aside0.mk hR4; have HB4 := Aside0.mk hB4; have HAT4 := Aside0.mk hat4; have nl4 := Aside0.mk (blk_grown (blk_alloc nl2.out _) hg4 (by first | exact Kd.R_ne HO2.out nl2.out (by decide) | exact Kd.R_away HO2.out (fun k_ hk_ => by first | exact hk_.2 | exact hk_.1.2 | exact hk_.1.1.2 | exact hk_.1.1.1.2))); have ne4 := Aside0.mk (blk_grown (blk_alloc ne2.out _) hg4 (by first | exact Kd.R_ne HO2.out ne2.out (by decide) | exact Kd.R_away HO2.out (fun k_ hk_ => by first | exact hk_.2 | exact hk_.1.2 | exact hk_.1.1.2 | exact hk_.1.1.1.2))); have nf4 := Aside0.mk (blk_grown (blk_alloc nf2.out _) hg4 (by first | exact Kd.R_ne HO2.out nf2.out (by decide) | exact Kd.R_away HO2.out (fun k_ hk_ => by first | exact hk_.2 | exact hk_.1.2 | exact hk_.1.1.2 | exact hk_.1.1.1.2))); have nr4 := Aside0.mk (IsS76.grown (IsS76.alloc HS.out _) hg4 (Kd.R_ne HO2.out HS.out.1 (by decide))); clear hR4 hB4 hg4 hat4; have hcl4 : w4.cell? ⟨gl, 0, none⟩ = some (.slice A7 x.length c7) := (blk_cell nl4.out 0).trans rfl; have hfl4 := blk_frozen nl4.out 0))
       go_roundg k1
       case measure => have := HK1.out; omega
       case rel => exact ⟨x ++ [(⟨t4, t5, t6⟩ : S35)], t9, _, t8, H', ⟨by have := HK1.out; omega⟩, ⟨Kd.R_mono (Kd.R_far (p := ⟨gl, 0, none⟩) (Kd.R_types HR4.out nl4.out (by decide)) (fun _ h_ => h_.2) _) (fun _ _ => trivial)⟩, ⟨blk_put nl4.out 0 _ (by simp)⟩, ⟨blk_far (p := ⟨gl, 0, none⟩) ne4.out n1.out.symm _⟩, ⟨blk_far (p := ⟨gl, 0, none⟩) nf4.out n2.out.symm _⟩, ⟨IsS76.far (p := ⟨gl, 0, none⟩) nr4.out m1.out.symm _⟩, ⟨below_set (j := 0) (v := _) HB4.out GL.out⟩⟩
      ·rw [if_neg c5] at H
       exact absurd H (by simp)
set_option maxHeartbeats 8000000 in
set_option maxRecDepth 100000 in
theorem scan_Includes.calls (k : Nat) (a0 : ByteArray) (r1 : List (S35)) (r2 : Int) (r3 : Int) (w : World) (h : scan_Includes.f k a0 = some (r1, r2, r3)) (hI_ : Inv w) :
  Calls Tryz.prog 9 #[.string a0] w fun e w' => ∃ v0_ : Value, e = .returned (.tuple #[v0_, .agg #[.int .i64 r2, .int .i64 r3]]) ∧ Kd.R k35 35 w' w.heap.size (fun _ => True) v0_ r1 ∧ Below w.heap.size w w' := by
 have HI := Aside0.mk hI_
 clear hI_
 have hu26 := Tryz.underlying26
 have HB := Aside0.mk (Below.refl w.heap.size w)
 have H : ((scan_found.f k a0).bind fun bt372 => (some (bt372.1, bt372.2.2.1, bt372.2.2.2))) = some (r1, r2, r3) := h
 clear h
 replace H := Option.bind_eq_some_iff.mp H
 obtain ⟨⟨t372, t375, t376, t377⟩, A20, H⟩ := H
 replace H : (some (t372, t376, t377)) = some (r1, r2, r3) := H
 have A2 := Aside0.mk A20
 clear A20
 simp only [Option.some.injEq, Prod.mk.injEq] at H
 obtain ⟨rfl, rfl, rfl⟩ := H
 go_enter Tryz.func9, Tryz.ntmps9
 try go_wp2_with (first | ((with_reducible refine gate_dst (N := 3) rfl ?_); refine box_event ?hg (N := 3) ?hd (cs := #[.int .i64 0, .int .i64 0]) (t := 26) ?hr ?_; (case hd => rfl); (case hg => rfl); (case hr => first | (go_simp; done) | (go_simp; rfl)); intro gb371 hg w3 hbox hb; have n0_ := Aside0.mk (below_step (by repeat (first | (with_reducible first | exact HB.out | apply bw1 | apply bw2 | apply bw3) | exact HB.out)) hb); have n1_ := Aside0.mk (hbox); have n2_ := Aside0.mk ((by rw [hg]; exact (below_size (by repeat (first | (with_reducible first | exact HB.out | apply bw1 | apply bw2 | apply bw3) | exact HB.out))) : w.heap.size ≤ gb371)); have n3_ := Aside0.mk (n2_.out); clear HB; have HB := n0_; have BK371 := n1_; have GW371 := n2_; have GE371 := n3_; clear n0_ n1_ n2_ n3_; clear hb hbox hg) | ((with_reducible refine gate_callee (f := 19) rfl ?_); refine goesL_ (some 9) rfl rfl Tryz.func19 (by kernel_rfl) rfl #[.string a0] rfl (am.trans (by rfl)) ?_; (with_reducible refine (scan_found.calls k a0 t372 t375 t376 t377 _ A2.out (by first | exact HI.out | exact Inv.below HI.out (by repeat (first | (with_reducible first | exact HB.out | apply bw1 | apply bw2 | apply bw3 | refine below_set ?_ GE371.out) | exact HB.out)) | exact Inv.drawn HI.out (by repeat (first | exact Drawn0.refl _ | apply Drawn0.step)))).mono ?_); rintro e w4 ⟨v373, rfl, ho0, hb⟩; refine ⟨_, rfl, ?_⟩; have n0_ := Aside0.mk (Kd.R_lower ho0 (below_size (by repeat (first | (with_reducible first | exact HB.out | apply bw1 | apply bw2 | apply bw3 | refine below_set ?_ GE371.out) | exact HB.out)))); have n1_ := Aside0.mk (blk_below (g := gb371) (o := .cells #[.int .i64 0, .int .i64 0] 26 (0, 0)) (by (with_reducible repeat (first | apply bd1 | apply bd2 | apply bd3)); exact BK371.out) hb); have n2_ := Aside0.mk (below_step (by repeat (first | (with_reducible first | exact HB.out | apply bw1 | apply bw2 | apply bw3 | refine below_set ?_ GE371.out) | exact HB.out)) hb); clear BK371 HB; have HO374 := n0_; have BK371 := n1_; have HB := n2_; clear n0_ n1_ n2_; (try clear hb); (try clear hb2); (try clear hk); (try clear hi); (try clear ho0)) | ((with_reducible refine gate_dst (N := 6) rfl ?_); refine box_event ?hg (N := 6) ?hd (cs := #[.int .i64 0, .int .i64 0]) (t := 26) ?hr ?_; (case hd => rfl); (case hg => rfl); (case hr => first | (go_simp; done) | (go_simp; rfl)); intro gb378 hg w5 hbox hb; have n0_ := Aside0.mk (Kd.R_below (by (with_reducible repeat (first | apply Kd.R_alloc | apply Kd.R_drewN | apply Kd.R_drew)); exact HO374.out) hb); have n1_ := Aside0.mk (blk_below (g := gb371) (o := .cells #[.int .i64 0, .int .i64 0] 26 (0, 0)) (by (with_reducible repeat (first | apply bd1 | apply bd2 | apply bd3)); exact BK371.out) hb); have n2_ := Aside0.mk (below_step (by repeat (first | (with_reducible first | exact HB.out | apply bw1 | apply bw2 | apply bw3 | refine below_set ?_ GE371.out) | exact HB.out)) hb); have n3_ := Aside0.mk (hbox); have n4_ := Aside0.mk ((by rw [hg]; exact (below_size (by repeat (first | (with_reducible first | exact HB.out | apply bw1 | apply bw2 | apply bw3 | refine below_set ?_ GE371.out) | exact HB.out))) : w.heap.size ≤ gb378)); have n5_ := Aside0.mk (n4_.out); have n6_ := Aside0.mk ((by rw [hg]; exact Nat.ne_of_lt (blk_lt (g := gb371) (o := .cells #[.int .i64 0, .int .i64 0] 26 (0, 0)) (by (with_reducible repeat (first | apply bd1 | apply bd2 | apply bd3)); exact BK371.out)) : gb371 ≠ gb378)); have n7_ := Aside0.mk (Ne.symm n6_.out); clear HO374 BK371 HB; have HO374 := n0_; have BK371 := n1_; have HB := n2_; have BK378 := n3_; have GW378 := n4_; have GE378 := n5_; have NB371_378 := n6_; have NB378_371 := n7_; clear n0_ n1_ n2_ n3_ n4_ n5_ n6_ n7_; clear hb hbox hg; have hnb6 := NB378_371.out; have hnc6 := NB371_378.out; have hcz7_0 : w5.cell? ⟨gb378, 0, none⟩ = some (.int .i64 0) := (blk_cell BK378.out 0).trans rfl; have hcz7_1 : w5.cell? ⟨gb378, 1, none⟩ = some (.int .i64 0) := (blk_cell BK378.out 1).trans rfl; have hfz7_0 := blk_frozen BK378.out 0; have hfz7_1 := blk_frozen BK378.out 1))
 have n0_ : Aside0 (Kd.R k35 35 ((w5.setCell ⟨gb378, 0, none⟩ (.int .i64 t376)).setCell ⟨gb378, 1, none⟩ (.int .i64 t377)) w.heap.size (fun _ => True) v373 t372) := ⟨by (with_reducible repeat (first | apply Kd.R_alloc | apply Kd.R_drewN | apply Kd.R_drew)); exact Kd.R_mono (Kd.R_far (p := ⟨gb378, 1, none⟩) (Kd.R_far (p := ⟨gb378, 0, none⟩) (Kd.R_types HO374.out BK378.out (by decide)) (fun _ hk => hk.2) (.int .i64 t376)) (fun _ hk => hk.2) (.int .i64 t377)) (fun _ hk => trivial)⟩
 have n1_ : Aside0 (((w5.setCell ⟨gb378, 0, none⟩ (.int .i64 t376)).setCell ⟨gb378, 1, none⟩ (.int .i64 t377)).heap[gb371]? = some (.cells #[.int .i64 0, .int .i64 0] 26 (0, 0))) := ⟨by (with_reducible repeat (first | apply bd1 | apply bd2 | apply bd3)); refine blk_far ?_ NB371_378.out _; (with_reducible repeat (first | apply bd1 | apply bd2 | apply bd3)); refine blk_far ?_ NB371_378.out _; (with_reducible repeat (first | apply bd1 | apply bd2 | apply bd3)); exact BK371.out⟩
 have n2_ : Aside0 (((w5.setCell ⟨gb378, 0, none⟩ (.int .i64 t376)).setCell ⟨gb378, 1, none⟩ (.int .i64 t377)).heap[gb378]? = some (.cells #[.int .i64 t376, .int .i64 t377] 26 (0, 0))) := ⟨by (with_reducible repeat (first | apply bd1 | apply bd2 | apply bd3)); refine blk_put (cs := #[.int .i64 t376, .int .i64 0]) ?_ 1 _ rfl; (with_reducible repeat (first | apply bd1 | apply bd2 | apply bd3)); refine blk_put (cs := #[.int .i64 0, .int .i64 0]) ?_ 0 _ rfl; (with_reducible repeat (first | apply bd1 | apply bd2 | apply bd3)); exact BK378.out⟩
 have n3_ : Aside0 (Below w.heap.size w ((w5.setCell ⟨gb378, 0, none⟩ (.int .i64 t376)).setCell ⟨gb378, 1, none⟩ (.int .i64 t377))) := ⟨by repeat (first | (with_reducible first | exact HB.out | apply bw1 | apply bw2 | apply bw3 | refine below_set ?_ GE371.out | refine below_set ?_ GE378.out) | exact HB.out)⟩
 (try clear HO374)
 (try clear BK371)
 (try clear BK378)
 (try clear HB)
 generalize ((w5.setCell ⟨gb378, 0, none⟩ (.int .i64 t376)).setCell ⟨gb378, 1, none⟩ (.int .i64 t377)) = w8 at n0_ n1_ n2_ n3_ ⊢
 have HO374 := n0_
 have BK371 := n1_
 have BK378 := n2_
 have HB := n3_
 clear n0_ n1_ n2_ n3_
 have n0_ := Aside0.mk (Kd.R_drew HO374.out)
 have n1_ := Aside0.mk (blk_drew BK371.out)
 have n2_ := Aside0.mk (blk_drew BK378.out)
 have n3_ := Aside0.mk (below_drew1 HB.out)
 clear HO374 BK371 BK378 HB
 have HO374 := n0_
 have BK371 := n1_
 have BK378 := n2_
 have HB := n3_
 clear n0_ n1_ n2_ n3_
 refine start_ (n := 4) (S := fun w' => w'.cell? ⟨gb378, 0, none⟩ = some (.int .i64 t376) ∧ w'.cell? ⟨gb378, 1, none⟩ = some (.int .i64 t377)) (ds := []) #[false, false, false, false] (by kernel_rfl) rfl rfl ⟨(blk_cell BK378.out 0).trans rfl, (blk_cell BK378.out 1).trans rfl⟩ (fun hHeld => ?_)
 generalize w8.drew = w9 at HO374 BK371 BK378 HB hHeld ⊢
 refine pure_ (i := 0) (N := some 13) (v := ?_) (a' := ?_) #[true, false, false, false] rfl rfl (by kernel_rfl) (fun _ _ _ h => h) (Or.inl ⟨by rfl, ?_⟩) ?_ ?_
 rotate_left
 ·intro w'
  go_simp
  with_reducible rfl
 rotate_left
 ·simp only [Act.put, List.setIfInBounds_toArray, List.set_cons_zero, List.set_cons_succ, i64_w, i32_w]
  rfl
 refine pure_ (i := 2) (N := some 2) (v := ?_) (a' := ?_) #[true, false, true, false] rfl rfl (by kernel_rfl) (fun _ _ _ h => h) (Or.inl ⟨by rfl, ?_⟩) ?_ ?_
 rotate_left
 ·intro w'
  go_simp
  with_reducible rfl
 rotate_left
 ·simp only [Act.put, List.setIfInBounds_toArray, List.set_cons_zero, List.set_cons_succ, i64_w, i32_w]
  rfl
 refine take_ (i := 1) (N := some 14) (v := ?_) (a' := ?_) #[true, true, true, false] rfl rfl (by kernel_rfl) (fun _ _ _ h => h) (Or.inl ⟨by rfl, ?_⟩) hHeld ?_ ?_
 rotate_left
 ·rintro w' ⟨s0, s1⟩
  go_simp
  with_reducible rfl
 rotate_left
 ·simp only [Act.put, List.setIfInBounds_toArray, List.set_cons_zero, List.set_cons_succ, i64_w, i32_w]
  rfl
 refine one_ (i := 3) (N := none) #[true, true, true, true] rfl rfl (by kernel_rfl) (by decide) (fun K hK => ?_)
 have hs10 : w9.cell? ⟨gb371, 0, none⟩ = some (.int .i64 0) := (blk_cell BK371.out 0).trans rfl
 have hfs10 := blk_frozen BK371.out 0
 have hns10_1 := NB378_371.out
 have hms10_1 := NB371_378.out
 have hs11 : w9.cell? ⟨gb371, 1, none⟩ = some (.int .i64 0) := (blk_cell BK371.out 1).trans rfl
 have hfs11 := blk_frozen BK371.out 1
 have hns11_1 := NB378_371.out
 have hms11_1 := NB371_378.out
 refine skip_ (w1 := ?_) (by rfl) rfl ?_ ?_
 rotate_left
 ·go_simp
  rfl
 refine hK.out _ _ ⟨((cell_far (p := ⟨gb371, _, none⟩) NB378_371.out _).trans (((cell_far (p := ⟨gb371, _, none⟩) NB378_371.out _).trans (hHeld.1)))), ((cell_far (p := ⟨gb371, _, none⟩) NB378_371.out _).trans (((cell_far (p := ⟨gb371, _, none⟩) NB378_371.out _).trans (hHeld.2))))⟩ (fun hHeld => ?_)
 clear hK K
 refine done_ (by kernel_rfl) ?_
 try go_wp2
 refine bodyPost_ret (results_tc rfl _ _ gb371 26 #[.int .i64 t376, .int .i64 t377] (0, 0) _ rfl (by (with_reducible repeat (first | apply bd1 | apply bd2 | apply bd3)); refine blk_put (cs := #[.int .i64 t376, .int .i64 0]) ?_ 1 _ rfl; (with_reducible repeat (first | apply bd1 | apply bd2 | apply bd3)); refine blk_put (cs := #[.int .i64 0, .int .i64 0]) ?_ 0 _ rfl; (with_reducible repeat (first | apply bd1 | apply bd2 | apply bd3)); exact BK371.out) Tryz.underlying26 rfl (by kernel_rfl)) rfl ?_
 exact ⟨_, by first | rfl | (simp [*, errW_none, errW_some] <;> rfl), by (with_reducible repeat (first | apply Kd.R_alloc | apply Kd.R_drewN | apply Kd.R_drew)); exact Kd.R_mono (Kd.R_far (p := ⟨gb371, 1, none⟩) (Kd.R_far (p := ⟨gb371, 0, none⟩) (Kd.R_types HO374.out BK371.out (by decide)) (fun _ hk => hk.2) (.int .i64 t376)) (fun _ hk => hk.2) (.int .i64 t377)) (fun _ hk => trivial), by repeat (first | (with_reducible first | exact HB.out | apply bw1 | apply bw2 | apply bw3 | refine below_set ?_ GE371.out | refine below_set ?_ GE378.out) | exact HB.out)⟩
set_option maxHeartbeats 8000000 in
set_option maxRecDepth 100000 in
theorem scan_Head.calls (k : Nat) (a0 : ByteArray) (r : Int) (w : World) (h : scan_Head.f k a0 = some r) (hI_ : Inv w) :
  Calls Tryz.prog 18 #[.string a0] w fun e w' => e = .returned (.int .i64 r) ∧ Below w.heap.size w w' := by
 have HI := Aside0.mk hI_
 clear hI_
 have hu26 := Tryz.underlying26
 have HB := Aside0.mk (Below.refl w.heap.size w)
 have H : ((scan_found.f k a0).bind fun bt379 => (some bt379.2.1)) = some r := h
 clear h
 replace H := Option.bind_eq_some_iff.mp H
 obtain ⟨⟨t379, t382, t383, t384⟩, A20, H⟩ := H
 replace H : (some t382) = some r := H
 have A2 := Aside0.mk A20
 clear A20
 obtain rfl := Option.some.inj H
 go_enter Tryz.func18, Tryz.ntmps18
 go_wp2_with (first | ((with_reducible refine gate_callee (f := 19) rfl ?_); refine goesL_ (some 8) rfl rfl Tryz.func19 (by kernel_rfl) rfl #[.string a0] rfl (am.trans (by rfl)) ?_; (with_reducible refine (scan_found.calls k a0 t379 t382 t383 t384 _ A2.out (by first | exact HI.out | exact Inv.below HI.out (by repeat (first | (with_reducible first | exact HB.out | apply bw1 | apply bw2 | apply bw3) | exact HB.out)) | exact Inv.drawn HI.out (by repeat (first | exact Drawn0.refl _ | apply Drawn0.step)))).mono ?_); rintro e w3 ⟨v380, rfl, ho0, hb⟩; refine ⟨_, rfl, ?_⟩; have n0_ := Aside0.mk (Kd.R_lower ho0 (below_size (by repeat (first | (with_reducible first | exact HB.out | apply bw1 | apply bw2 | apply bw3) | exact HB.out)))); have n1_ := Aside0.mk (below_step (by repeat (first | (with_reducible first | exact HB.out | apply bw1 | apply bw2 | apply bw3) | exact HB.out)) hb); clear HB; have HO381 := n0_; have HB := n1_; clear n0_ n1_; (try clear hb); (try clear hb2); (try clear hk); (try clear hi); (try clear ho0)) | ((with_reducible refine gate_dst (N := 5) rfl ?_); refine box_event ?hg (N := 5) ?hd (cs := #[.int .i64 0, .int .i64 0]) (t := 26) ?hr ?_; (case hd => rfl); (case hg => rfl); (case hr => first | (go_simp; done) | (go_simp; rfl)); intro gb385 hg w4 hbox hb; have n0_ := Aside0.mk (Kd.R_below (by (with_reducible repeat (first | apply Kd.R_alloc | apply Kd.R_drewN | apply Kd.R_drew)); exact HO381.out) hb); have n1_ := Aside0.mk (below_step (by repeat (first | (with_reducible first | exact HB.out | apply bw1 | apply bw2 | apply bw3) | exact HB.out)) hb); have n2_ := Aside0.mk (hbox); have n3_ := Aside0.mk ((by rw [hg]; exact (below_size (by repeat (first | (with_reducible first | exact HB.out | apply bw1 | apply bw2 | apply bw3) | exact HB.out))) : w.heap.size ≤ gb385)); have n4_ := Aside0.mk (n3_.out); clear HO381 HB; have HO381 := n0_; have HB := n1_; have BK385 := n2_; have GW385 := n3_; have GE385 := n4_; clear n0_ n1_ n2_ n3_ n4_; clear hb hbox hg; have hcz5_0 : w4.cell? ⟨gb385, 0, none⟩ = some (.int .i64 0) := (blk_cell BK385.out 0).trans rfl; have hcz5_1 : w4.cell? ⟨gb385, 1, none⟩ = some (.int .i64 0) := (blk_cell BK385.out 1).trans rfl; have hfz5_0 := blk_frozen BK385.out 0; have hfz5_1 := blk_frozen BK385.out 1))
 go_ret
 exact ⟨by first | rfl | (simp [*, errW_none, errW_some] <;> rfl), by repeat (first | (with_reducible first | exact HB.out | apply bw1 | apply bw2 | apply bw3 | refine below_set ?_ GE385.out) | exact HB.out)⟩
set_option maxHeartbeats 8000000 in
set_option maxRecDepth 100000 in
theorem treadlelaw13_alive.calls (k : Nat)  (r : Bool) (w : World) (h : treadlelaw13_alive.f k  = some r) (hI_ : Inv w) :
  Calls Tryz.prog 8 #[] w fun e w' => e = .returned (.bool r) ∧ Below w.heap.size w w' := by
 have HI := Aside0.mk hI_
 clear hI_
 have hu26 := Tryz.underlying26
 have hu35 := Tryz.underlying35
 have HB := Aside0.mk (Below.refl w.heap.size w)
 have H : ((scan_Includes.f k (⟨#[105, 110, 99, 108, 117, 100, 101, 32, 34, 97, 46, 109, 34, 32, 97, 115, 32, 97, 59, 32, 99, 111, 110, 115, 116]⟩ : ByteArray)).bind fun bt386 => (if (bt386.2.1 == 0 && (bt386.2.2 == 0)) = true then (if (bt386.1.length : Int) = 1 then (if 0 < (bt386.1.length : Int) then (if ((((rd_T35 bt386.1 0).f0).toList) == ([97, 46, 109] : List UInt8) && ((((rd_T35 bt386.1 0).f1).toList) == ([97] : List UInt8) && (((rd_T35 bt386.1 0).f2) == 0))) = true then ((scan_Head.f k (⟨#[105, 110, 99, 108, 117, 100, 101, 32, 34, 97, 34, 32, 97, 115, 32, 97, 59]⟩ : ByteArray)).bind fun t393 => (some (t393 == 17))) else (some false)) else (none)) else (some false)) else (some false))) = some r := h
 clear h
 replace H := Option.bind_eq_some_iff.mp H
 obtain ⟨⟨t386, t389, t390⟩, A10, H⟩ := H
 replace H : (if (t389 == 0 && (t390 == 0)) = true then (if (t386.length : Int) = 1 then (if 0 < (t386.length : Int) then (if ((((rd_T35 t386 0).f0).toList) == ([97, 46, 109] : List UInt8) && ((((rd_T35 t386 0).f1).toList) == ([97] : List UInt8) && (((rd_T35 t386 0).f2) == 0))) = true then ((scan_Head.f k (⟨#[105, 110, 99, 108, 117, 100, 101, 32, 34, 97, 34, 32, 97, 115, 32, 97, 59]⟩ : ByteArray)).bind fun t393 => (some (t393 == 17))) else (some false)) else (none)) else (some false)) else (some false)) = some r := H
 have A1 := Aside0.mk A10
 clear A10
 by_cases c2 : (t389 == 0 && (t390 == 0)) = true
 ·rw [if_pos c2] at H
  have c2b0 : (t389 == 0 && (t390 == 0)) = true := c2
  (try (have c2b1 : decide (t389 = 0 && (t390 == 0)) = true := by simpa using c2))
  (try (have c2b2 : (t389 == 0 && (t390 == 0)) = true := by simpa using c2))
  clear c2
  by_cases c3 : (t386.length : Int) = 1
  ·rw [if_pos c3] at H
   have c3b0 : ((t386.length : Int) == 1) = true := beq_iff_eq.mpr c3
   have c3b1 : ((t386.length : Int) != 1) = false := bne_eq_false_iff_eq.mpr c3
   clear c3
   by_cases c4 : 0 < (t386.length : Int)
   ·rw [if_pos c4] at H
    have c4b0 : decide (0 < (t386.length : Int)) = true := decide_eq_true c4
    have c4b1 : decide (0 < t386.length) = true := decide_eq_true (by omega)
    clear c4
    by_cases c5 : ((((rd_T35 t386 0).f0).toList) == ([97, 46, 109] : List UInt8) && ((((rd_T35 t386 0).f1).toList) == ([97] : List UInt8) && (((rd_T35 t386 0).f2) == 0))) = true
    ·rw [if_pos c5] at H
     have c5b0 : ((((rd_T35 t386 0).f0).toList) == ([97, 46, 109] : List UInt8) && ((((rd_T35 t386 0).f1).toList) == ([97] : List UInt8) && (((rd_T35 t386 0).f2) == 0))) = true := c5
     (try (have c5b1 : decide ((((rd_T35 t386 0).f0).toList) = ([97, 46, 109] : List UInt8) && ((((rd_T35 t386 0).f1).toList) == ([97] : List UInt8) && (((rd_T35 t386 0).f2) == 0))) = true := by simpa using c5))
     (try (have c5b2 : ((((rd_T35 t386 0).f0).toList) == ([97, 46, 109] : List UInt8) && ((((rd_T35 t386 0).f1).toList) == ([97] : List UInt8) && (((rd_T35 t386 0).f2) == 0))) = true := by simpa using c5))
     clear c5
     replace H := Option.bind_eq_some_iff.mp H
     obtain ⟨t393, A60, H⟩ := H
     replace H : (some (t393 == 17)) = some r := H
     have A6 := Aside0.mk A60
     clear A60
     obtain rfl := Option.some.inj H
     go_enter Tryz.func8, Tryz.ntmps8
     go_wp2_with (first | ((with_reducible refine gate_callee (f := 9) rfl ?_); refine goesL_ (some 4) rfl rfl Tryz.func9 (by kernel_rfl) rfl #[.string (⟨#[105, 110, 99, 108, 117, 100, 101, 32, 34, 97, 46, 109, 34, 32, 97, 115, 32, 97, 59, 32, 99, 111, 110, 115, 116]⟩ : ByteArray)] rfl (am.trans (by rfl)) ?_; (with_reducible refine (scan_Includes.calls k (⟨#[105, 110, 99, 108, 117, 100, 101, 32, 34, 97, 46, 109, 34, 32, 97, 115, 32, 97, 59, 32, 99, 111, 110, 115, 116]⟩ : ByteArray) t386 t389 t390 _ A1.out (by first | exact HI.out | exact Inv.below HI.out (by repeat (first | (with_reducible first | exact HB.out | apply bw1 | apply bw2 | apply bw3) | exact HB.out)) | exact Inv.drawn HI.out (by repeat (first | exact Drawn0.refl _ | apply Drawn0.step)))).mono ?_); rintro e w7 ⟨v387, rfl, ho0, hb⟩; refine ⟨_, rfl, ?_⟩; have n0_ := Aside0.mk (Kd.R_lower ho0 (below_size (by repeat (first | (with_reducible first | exact HB.out | apply bw1 | apply bw2 | apply bw3) | exact HB.out)))); have n1_ := Aside0.mk (below_step (by repeat (first | (with_reducible first | exact HB.out | apply bw1 | apply bw2 | apply bw3) | exact HB.out)) hb); clear HB; have HO388 := n0_; have HB := n1_; clear n0_ n1_; (try clear hb); (try clear hb2); (try clear hk); (try clear hi); (try clear ho0)) | ((with_reducible refine gate_dst (N := 2) rfl ?_); (try (refine gate_guard (by rfl) ?_; dsimp only)); refine box_event ?hg (N := 2) ?hd (cs := #[.int .i64 0, .int .i64 0]) (t := 26) ?hr ?_; (case hd => rfl); (case hg => rfl); (case hr => first | (go_simp; done) | (go_simp; rfl)); intro gb391 hg w8 hbox hb; have n0_ := Aside0.mk (Kd.R_below (by (with_reducible repeat (first | apply Kd.R_alloc | apply Kd.R_drewN | apply Kd.R_drew)); exact HO388.out) hb); have n1_ := Aside0.mk (below_step (by repeat (first | (with_reducible first | exact HB.out | apply bw1 | apply bw2 | apply bw3) | exact HB.out)) hb); have n2_ := Aside0.mk (hbox); have n3_ := Aside0.mk ((by rw [hg]; exact (below_size (by repeat (first | (with_reducible first | exact HB.out | apply bw1 | apply bw2 | apply bw3) | exact HB.out))) : w.heap.size ≤ gb391)); have n4_ := Aside0.mk (n3_.out); clear HO388 HB; have HO388 := n0_; have HB := n1_; have BK391 := n2_; have GW391 := n3_; have GE391 := n4_; clear n0_ n1_ n2_ n3_ n4_; clear hb hbox hg; have hcz9_0 : w8.cell? ⟨gb391, 0, none⟩ = some (.int .i64 0) := (blk_cell BK391.out 0).trans rfl; have hcz9_1 : w8.cell? ⟨gb391, 1, none⟩ = some (.int .i64 0) := (blk_cell BK391.out 1).trans rfl; have hfz9_0 := blk_frozen BK391.out 0; have hfz9_1 := blk_frozen BK391.out 1; obtain ⟨Ao10, co10, eo10⟩ := Kd.R_slice HO388.out; subst eo10; have p392 : 0 ≤ (0 : Int) := (by omega); have q392 : 0 < (t386.length : Int) := of_decide_eq_true (by first | (with_reducible assumption) | assumption); obtain ⟨ad392, e392, hx392_0, hx392_1, hx392_2⟩ := at_T35 (Kd.R_reads' HO388.out).2.2 0 p392 q392; cases e392; have qi392 : (0 < t386.length) = True := eq_true (by omega); (try rw [show ((0 : Int)).toNat = 0 from rfl] at hx392_0); (try rw [show 0 * 3 = 0 from rfl] at hx392_0); (try rw [Addr.add_zero'] at hx392_0); (try rw [show ((0 : Int)).toNat = 0 from rfl] at hx392_1); (try rw [show 0 * 3 = 0 from rfl] at hx392_1); (try rw [Addr.add_zero'] at hx392_1); (try rw [show ((0 : Int)).toNat = 0 from rfl] at hx392_2); (try rw [show 0 * 3 = 0 from rfl] at hx392_2); (try rw [Addr.add_zero'] at hx392_2); have hn392_0 : ad392.block ≠ gb391 := Kd.own_blk (by first | exact Kd.R_ne HO388.out BK391.out (by decide) | exact Kd.R_away HO388.out (fun k_ hk_ => by first | exact hk_.2 | exact hk_.1.2 | exact hk_.1.1.2 | exact hk_.1.1.1.2)); have hn392_1 : ad392.block ≠ gb391 := Kd.own_blk (by first | exact Kd.R_ne HO388.out BK391.out (by decide) | exact Kd.R_away HO388.out (fun k_ hk_ => by first | exact hk_.2 | exact hk_.1.2 | exact hk_.1.1.2 | exact hk_.1.1.1.2)); replace hx392_0 := (cell_far (p := ⟨gb391, 0, none⟩) (by first | (rw [add_block]; exact hn392_0) | (show (Addr.add _ _).block ≠ _; rw [add_block]; exact hn392_0) | exact hn392_0) (.int .i64 t389)).trans hx392_0; replace hx392_1 := (cell_far (p := ⟨gb391, 0, none⟩) (by first | (rw [add_block]; exact hn392_0) | (show (Addr.add _ _).block ≠ _; rw [add_block]; exact hn392_0) | exact hn392_0) (.int .i64 t389)).trans hx392_1; replace hx392_2 := (cell_far (p := ⟨gb391, 0, none⟩) (by first | (rw [add_block]; exact hn392_0) | (show (Addr.add _ _).block ≠ _; rw [add_block]; exact hn392_0) | exact hn392_0) (.int .i64 t389)).trans hx392_2; replace hx392_0 := (cell_far (p := ⟨gb391, 1, none⟩) (by first | (rw [add_block]; exact hn392_1) | (show (Addr.add _ _).block ≠ _; rw [add_block]; exact hn392_1) | exact hn392_1) (.int .i64 t390)).trans hx392_0; replace hx392_1 := (cell_far (p := ⟨gb391, 1, none⟩) (by first | (rw [add_block]; exact hn392_1) | (show (Addr.add _ _).block ≠ _; rw [add_block]; exact hn392_1) | exact hn392_1) (.int .i64 t390)).trans hx392_1; replace hx392_2 := (cell_far (p := ⟨gb391, 1, none⟩) (by first | (rw [add_block]; exact hn392_1) | (show (Addr.add _ _).block ≠ _; rw [add_block]; exact hn392_1) | exact hn392_1) (.int .i64 t390)).trans hx392_2; clear hn392_0 hn392_1; replace p392 := eq_true p392; replace q392 := eq_true q392) | (go_at_call 18; (with_reducible refine (scan_Head.calls k (⟨#[105, 110, 99, 108, 117, 100, 101, 32, 34, 97, 34, 32, 97, 115, 32, 97, 59]⟩ : ByteArray) t393 _ A6.out (by first | exact HI.out | exact Inv.below HI.out (by repeat (first | (with_reducible first | exact HB.out | apply bw1 | apply bw2 | apply bw3 | refine below_set ?_ GE391.out) | exact HB.out)) | exact Inv.drawn HI.out (by repeat (first | exact Drawn0.refl _ | apply Drawn0.step)))).mono ?_); rintro e w11 ⟨rfl, hb⟩; have n0_ := Aside0.mk (Kd.R_below (by (with_reducible repeat (first | apply Kd.R_alloc | apply Kd.R_drewN | apply Kd.R_drew)); exact (Kd.R_mono (Kd.R_far (p := ⟨gb391, 1, none⟩) (Kd.R_far (p := ⟨gb391, 0, none⟩) (Kd.R_types HO388.out BK391.out (by decide)) (fun _ hk => hk.2) (.int .i64 t389)) (fun _ hk => hk.2) (.int .i64 t390)) (fun _ h_ => h_.1))) hb); have n1_ := Aside0.mk (blk_below (g := gb391) (o := .cells #[.int .i64 t389, .int .i64 t390] 26 (0, 0)) (by (with_reducible repeat (first | apply bd1 | apply bd2 | apply bd3)); refine blk_put (cs := #[.int .i64 t389, .int .i64 0]) ?_ 1 _ rfl; (with_reducible repeat (first | apply bd1 | apply bd2 | apply bd3)); refine blk_put (cs := #[.int .i64 0, .int .i64 0]) ?_ 0 _ rfl; (with_reducible repeat (first | apply bd1 | apply bd2 | apply bd3)); exact BK391.out) hb); have n2_ := Aside0.mk (below_step (by repeat (first | (with_reducible first | exact HB.out | apply bw1 | apply bw2 | apply bw3 | refine below_set ?_ GE391.out) | exact HB.out)) hb); clear HO388 BK391 HB; have HO388 := n0_; have BK391 := n1_; have HB := n2_; clear n0_ n1_ n2_; (try clear hb); (try clear hb2); (try clear hk); (try clear hi)))
     go_ret
     exact ⟨by first | rfl | (simp [*, errW_none, errW_some] <;> rfl), by repeat (first | (with_reducible first | exact HB.out | apply bw1 | apply bw2 | apply bw3 | refine below_set ?_ GE391.out) | exact HB.out)⟩
    ·rw [if_neg c5] at H
     have c5b0 : ((((rd_T35 t386 0).f0).toList) == ([97, 46, 109] : List UInt8) && ((((rd_T35 t386 0).f1).toList) == ([97] : List UInt8) && (((rd_T35 t386 0).f2) == 0))) = false := by simpa using c5
     (try (have c5b1 : decide ((((rd_T35 t386 0).f0).toList) = ([97, 46, 109] : List UInt8) && ((((rd_T35 t386 0).f1).toList) == ([97] : List UInt8) && (((rd_T35 t386 0).f2) == 0))) = false := by simpa using c5))
     (try (have c5b2 : ((((rd_T35 t386 0).f0).toList) == ([97, 46, 109] : List UInt8) && ((((rd_T35 t386 0).f1).toList) == ([97] : List UInt8) && (((rd_T35 t386 0).f2) == 0))) = false := by simpa using c5))
     (try (have c5b3 : ¬ ((((rd_T35 t386 0).f0).toList) = ([97, 46, 109] : List UInt8) && ((((rd_T35 t386 0).f1).toList) == ([97] : List UInt8) && (((rd_T35 t386 0).f2) == 0))) := by simpa using c5))
     clear c5
     obtain rfl := Option.some.inj H
     go_enter Tryz.func8, Tryz.ntmps8
     go_wp2_with (first | ((with_reducible refine gate_callee (f := 9) rfl ?_); refine goesL_ (some 4) rfl rfl Tryz.func9 (by kernel_rfl) rfl #[.string (⟨#[105, 110, 99, 108, 117, 100, 101, 32, 34, 97, 46, 109, 34, 32, 97, 115, 32, 97, 59, 32, 99, 111, 110, 115, 116]⟩ : ByteArray)] rfl (am.trans (by rfl)) ?_; (with_reducible refine (scan_Includes.calls k (⟨#[105, 110, 99, 108, 117, 100, 101, 32, 34, 97, 46, 109, 34, 32, 97, 115, 32, 97, 59, 32, 99, 111, 110, 115, 116]⟩ : ByteArray) t386 t389 t390 _ A1.out (by first | exact HI.out | exact Inv.below HI.out (by repeat (first | (with_reducible first | exact HB.out | apply bw1 | apply bw2 | apply bw3) | exact HB.out)) | exact Inv.drawn HI.out (by repeat (first | exact Drawn0.refl _ | apply Drawn0.step)))).mono ?_); rintro e w12 ⟨v387, rfl, ho0, hb⟩; refine ⟨_, rfl, ?_⟩; have n0_ := Aside0.mk (Kd.R_lower ho0 (below_size (by repeat (first | (with_reducible first | exact HB.out | apply bw1 | apply bw2 | apply bw3) | exact HB.out)))); have n1_ := Aside0.mk (below_step (by repeat (first | (with_reducible first | exact HB.out | apply bw1 | apply bw2 | apply bw3) | exact HB.out)) hb); clear HB; have HO388 := n0_; have HB := n1_; clear n0_ n1_; (try clear hb); (try clear hb2); (try clear hk); (try clear hi); (try clear ho0)) | ((with_reducible refine gate_dst (N := 2) rfl ?_); (try (refine gate_guard (by rfl) ?_; dsimp only)); refine box_event ?hg (N := 2) ?hd (cs := #[.int .i64 0, .int .i64 0]) (t := 26) ?hr ?_; (case hd => rfl); (case hg => rfl); (case hr => first | (go_simp; done) | (go_simp; rfl)); intro gb391 hg w13 hbox hb; have n0_ := Aside0.mk (Kd.R_below (by (with_reducible repeat (first | apply Kd.R_alloc | apply Kd.R_drewN | apply Kd.R_drew)); exact HO388.out) hb); have n1_ := Aside0.mk (below_step (by repeat (first | (with_reducible first | exact HB.out | apply bw1 | apply bw2 | apply bw3) | exact HB.out)) hb); have n2_ := Aside0.mk (hbox); have n3_ := Aside0.mk ((by rw [hg]; exact (below_size (by repeat (first | (with_reducible first | exact HB.out | apply bw1 | apply bw2 | apply bw3) | exact HB.out))) : w.heap.size ≤ gb391)); have n4_ := Aside0.mk (n3_.out); clear HO388 HB; have HO388 := n0_; have HB := n1_; have BK391 := n2_; have GW391 := n3_; have GE391 := n4_; clear n0_ n1_ n2_ n3_ n4_; clear hb hbox hg; have hcz14_0 : w13.cell? ⟨gb391, 0, none⟩ = some (.int .i64 0) := (blk_cell BK391.out 0).trans rfl; have hcz14_1 : w13.cell? ⟨gb391, 1, none⟩ = some (.int .i64 0) := (blk_cell BK391.out 1).trans rfl; have hfz14_0 := blk_frozen BK391.out 0; have hfz14_1 := blk_frozen BK391.out 1; obtain ⟨Ao15, co15, eo15⟩ := Kd.R_slice HO388.out; subst eo15; have p392 : 0 ≤ (0 : Int) := (by omega); have q392 : 0 < (t386.length : Int) := of_decide_eq_true (by first | (with_reducible assumption) | assumption); obtain ⟨ad392, e392, hx392_0, hx392_1, hx392_2⟩ := at_T35 (Kd.R_reads' HO388.out).2.2 0 p392 q392; cases e392; have qi392 : (0 < t386.length) = True := eq_true (by omega); (try rw [show ((0 : Int)).toNat = 0 from rfl] at hx392_0); (try rw [show 0 * 3 = 0 from rfl] at hx392_0); (try rw [Addr.add_zero'] at hx392_0); (try rw [show ((0 : Int)).toNat = 0 from rfl] at hx392_1); (try rw [show 0 * 3 = 0 from rfl] at hx392_1); (try rw [Addr.add_zero'] at hx392_1); (try rw [show ((0 : Int)).toNat = 0 from rfl] at hx392_2); (try rw [show 0 * 3 = 0 from rfl] at hx392_2); (try rw [Addr.add_zero'] at hx392_2); have hn392_0 : ad392.block ≠ gb391 := Kd.own_blk (by first | exact Kd.R_ne HO388.out BK391.out (by decide) | exact Kd.R_away HO388.out (fun k_ hk_ => by first | exact hk_.2 | exact hk_.1.2 | exact hk_.1.1.2 | exact hk_.1.1.1.2)); have hn392_1 : ad392.block ≠ gb391 := Kd.own_blk (by first | exact Kd.R_ne HO388.out BK391.out (by decide) | exact Kd.R_away HO388.out (fun k_ hk_ => by first | exact hk_.2 | exact hk_.1.2 | exact hk_.1.1.2 | exact hk_.1.1.1.2)); replace hx392_0 := (cell_far (p := ⟨gb391, 0, none⟩) (by first | (rw [add_block]; exact hn392_0) | (show (Addr.add _ _).block ≠ _; rw [add_block]; exact hn392_0) | exact hn392_0) (.int .i64 t389)).trans hx392_0; replace hx392_1 := (cell_far (p := ⟨gb391, 0, none⟩) (by first | (rw [add_block]; exact hn392_0) | (show (Addr.add _ _).block ≠ _; rw [add_block]; exact hn392_0) | exact hn392_0) (.int .i64 t389)).trans hx392_1; replace hx392_2 := (cell_far (p := ⟨gb391, 0, none⟩) (by first | (rw [add_block]; exact hn392_0) | (show (Addr.add _ _).block ≠ _; rw [add_block]; exact hn392_0) | exact hn392_0) (.int .i64 t389)).trans hx392_2; replace hx392_0 := (cell_far (p := ⟨gb391, 1, none⟩) (by first | (rw [add_block]; exact hn392_1) | (show (Addr.add _ _).block ≠ _; rw [add_block]; exact hn392_1) | exact hn392_1) (.int .i64 t390)).trans hx392_0; replace hx392_1 := (cell_far (p := ⟨gb391, 1, none⟩) (by first | (rw [add_block]; exact hn392_1) | (show (Addr.add _ _).block ≠ _; rw [add_block]; exact hn392_1) | exact hn392_1) (.int .i64 t390)).trans hx392_1; replace hx392_2 := (cell_far (p := ⟨gb391, 1, none⟩) (by first | (rw [add_block]; exact hn392_1) | (show (Addr.add _ _).block ≠ _; rw [add_block]; exact hn392_1) | exact hn392_1) (.int .i64 t390)).trans hx392_2; clear hn392_0 hn392_1; replace p392 := eq_true p392; replace q392 := eq_true q392))
     go_ret
     exact ⟨by first | rfl | (simp [*, errW_none, errW_some] <;> rfl), by repeat (first | (with_reducible first | exact HB.out | apply bw1 | apply bw2 | apply bw3 | refine below_set ?_ GE391.out) | exact HB.out)⟩
   ·rw [if_neg c4] at H
    exact absurd H (by simp)
  ·rw [if_neg c3] at H
   have c3b0 : ((t386.length : Int) == 1) = false := beq_eq_false_iff_ne.mpr c3
   have c3b1 : ((t386.length : Int) != 1) = true := bne_iff_ne.mpr c3
   obtain rfl := Option.some.inj H
   go_enter Tryz.func8, Tryz.ntmps8
   go_wp2_with (first | ((with_reducible refine gate_callee (f := 9) rfl ?_); refine goesL_ (some 4) rfl rfl Tryz.func9 (by kernel_rfl) rfl #[.string (⟨#[105, 110, 99, 108, 117, 100, 101, 32, 34, 97, 46, 109, 34, 32, 97, 115, 32, 97, 59, 32, 99, 111, 110, 115, 116]⟩ : ByteArray)] rfl (am.trans (by rfl)) ?_; (with_reducible refine (scan_Includes.calls k (⟨#[105, 110, 99, 108, 117, 100, 101, 32, 34, 97, 46, 109, 34, 32, 97, 115, 32, 97, 59, 32, 99, 111, 110, 115, 116]⟩ : ByteArray) t386 t389 t390 _ A1.out (by first | exact HI.out | exact Inv.below HI.out (by repeat (first | (with_reducible first | exact HB.out | apply bw1 | apply bw2 | apply bw3) | exact HB.out)) | exact Inv.drawn HI.out (by repeat (first | exact Drawn0.refl _ | apply Drawn0.step)))).mono ?_); rintro e w16 ⟨v387, rfl, ho0, hb⟩; refine ⟨_, rfl, ?_⟩; have n0_ := Aside0.mk (Kd.R_lower ho0 (below_size (by repeat (first | (with_reducible first | exact HB.out | apply bw1 | apply bw2 | apply bw3) | exact HB.out)))); have n1_ := Aside0.mk (below_step (by repeat (first | (with_reducible first | exact HB.out | apply bw1 | apply bw2 | apply bw3) | exact HB.out)) hb); clear HB; have HO388 := n0_; have HB := n1_; clear n0_ n1_; (try clear hb); (try clear hb2); (try clear hk); (try clear hi); (try clear ho0)) | ((with_reducible refine gate_dst (N := 2) rfl ?_); (try (refine gate_guard (by rfl) ?_; dsimp only)); refine box_event ?hg (N := 2) ?hd (cs := #[.int .i64 0, .int .i64 0]) (t := 26) ?hr ?_; (case hd => rfl); (case hg => rfl); (case hr => first | (go_simp; done) | (go_simp; rfl)); intro gb391 hg w17 hbox hb; have n0_ := Aside0.mk (Kd.R_below (by (with_reducible repeat (first | apply Kd.R_alloc | apply Kd.R_drewN | apply Kd.R_drew)); exact HO388.out) hb); have n1_ := Aside0.mk (below_step (by repeat (first | (with_reducible first | exact HB.out | apply bw1 | apply bw2 | apply bw3) | exact HB.out)) hb); have n2_ := Aside0.mk (hbox); have n3_ := Aside0.mk ((by rw [hg]; exact (below_size (by repeat (first | (with_reducible first | exact HB.out | apply bw1 | apply bw2 | apply bw3) | exact HB.out))) : w.heap.size ≤ gb391)); have n4_ := Aside0.mk (n3_.out); clear HO388 HB; have HO388 := n0_; have HB := n1_; have BK391 := n2_; have GW391 := n3_; have GE391 := n4_; clear n0_ n1_ n2_ n3_ n4_; clear hb hbox hg; have hcz18_0 : w17.cell? ⟨gb391, 0, none⟩ = some (.int .i64 0) := (blk_cell BK391.out 0).trans rfl; have hcz18_1 : w17.cell? ⟨gb391, 1, none⟩ = some (.int .i64 0) := (blk_cell BK391.out 1).trans rfl; have hfz18_0 := blk_frozen BK391.out 0; have hfz18_1 := blk_frozen BK391.out 1; obtain ⟨Ao19, co19, eo19⟩ := Kd.R_slice HO388.out; subst eo19))
   go_ret
   exact ⟨by first | rfl | (simp [*, errW_none, errW_some] <;> rfl), by repeat (first | (with_reducible first | exact HB.out | apply bw1 | apply bw2 | apply bw3 | refine below_set ?_ GE391.out) | exact HB.out)⟩
 ·rw [if_neg c2] at H
  have c2b0 : (t389 == 0 && (t390 == 0)) = false := by simpa using c2
  (try (have c2b1 : decide (t389 = 0 && (t390 == 0)) = false := by simpa using c2))
  (try (have c2b2 : (t389 == 0 && (t390 == 0)) = false := by simpa using c2))
  (try (have c2b3 : ¬ (t389 = 0 && (t390 == 0)) := by simpa using c2))
  clear c2
  obtain rfl := Option.some.inj H
  go_enter Tryz.func8, Tryz.ntmps8
  go_wp2_with (first | ((with_reducible refine gate_callee (f := 9) rfl ?_); refine goesL_ (some 4) rfl rfl Tryz.func9 (by kernel_rfl) rfl #[.string (⟨#[105, 110, 99, 108, 117, 100, 101, 32, 34, 97, 46, 109, 34, 32, 97, 115, 32, 97, 59, 32, 99, 111, 110, 115, 116]⟩ : ByteArray)] rfl (am.trans (by rfl)) ?_; (with_reducible refine (scan_Includes.calls k (⟨#[105, 110, 99, 108, 117, 100, 101, 32, 34, 97, 46, 109, 34, 32, 97, 115, 32, 97, 59, 32, 99, 111, 110, 115, 116]⟩ : ByteArray) t386 t389 t390 _ A1.out (by first | exact HI.out | exact Inv.below HI.out (by repeat (first | (with_reducible first | exact HB.out | apply bw1 | apply bw2 | apply bw3) | exact HB.out)) | exact Inv.drawn HI.out (by repeat (first | exact Drawn0.refl _ | apply Drawn0.step)))).mono ?_); rintro e w20 ⟨v387, rfl, ho0, hb⟩; refine ⟨_, rfl, ?_⟩; have n0_ := Aside0.mk (Kd.R_lower ho0 (below_size (by repeat (first | (with_reducible first | exact HB.out | apply bw1 | apply bw2 | apply bw3) | exact HB.out)))); have n1_ := Aside0.mk (below_step (by repeat (first | (with_reducible first | exact HB.out | apply bw1 | apply bw2 | apply bw3) | exact HB.out)) hb); clear HB; have HO388 := n0_; have HB := n1_; clear n0_ n1_; (try clear hb); (try clear hb2); (try clear hk); (try clear hi); (try clear ho0)) | ((with_reducible refine gate_dst (N := 2) rfl ?_); (try (refine gate_guard (by rfl) ?_; dsimp only)); refine box_event ?hg (N := 2) ?hd (cs := #[.int .i64 0, .int .i64 0]) (t := 26) ?hr ?_; (case hd => rfl); (case hg => rfl); (case hr => first | (go_simp; done) | (go_simp; rfl)); intro gb391 hg w21 hbox hb; have n0_ := Aside0.mk (Kd.R_below (by (with_reducible repeat (first | apply Kd.R_alloc | apply Kd.R_drewN | apply Kd.R_drew)); exact HO388.out) hb); have n1_ := Aside0.mk (below_step (by repeat (first | (with_reducible first | exact HB.out | apply bw1 | apply bw2 | apply bw3) | exact HB.out)) hb); have n2_ := Aside0.mk (hbox); have n3_ := Aside0.mk ((by rw [hg]; exact (below_size (by repeat (first | (with_reducible first | exact HB.out | apply bw1 | apply bw2 | apply bw3) | exact HB.out))) : w.heap.size ≤ gb391)); have n4_ := Aside0.mk (n3_.out); clear HO388 HB; have HO388 := n0_; have HB := n1_; have BK391 := n2_; have GW391 := n3_; have GE391 := n4_; clear n0_ n1_ n2_ n3_ n4_; clear hb hbox hg; have hcz22_0 : w21.cell? ⟨gb391, 0, none⟩ = some (.int .i64 0) := (blk_cell BK391.out 0).trans rfl; have hcz22_1 : w21.cell? ⟨gb391, 1, none⟩ = some (.int .i64 0) := (blk_cell BK391.out 1).trans rfl; have hfz22_0 := blk_frozen BK391.out 0; have hfz22_1 := blk_frozen BK391.out 1))
  go_ret
  exact ⟨by first | rfl | (simp [*, errW_none, errW_some] <;> rfl), by repeat (first | (with_reducible first | exact HB.out | apply bw1 | apply bw2 | apply bw3 | refine below_set ?_ GE391.out) | exact HB.out)⟩
end Go.Proofs.YtifachjefpcgcaaGreatDoor.P
