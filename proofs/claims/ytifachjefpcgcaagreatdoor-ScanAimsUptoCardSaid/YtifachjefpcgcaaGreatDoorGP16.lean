import Derived.Test.YtifachjefpcgcaaGreatDoorGPD
import Derived.Test.YtifachjefpcgcaaGreatDoorGP15
namespace Go.Proofs.YtifachjefpcgcaaGreatDoor.P
open Go.RowKit Go.Proofs.YtifachjefpcgcaaGreatDoorW.PrintWords Go.Proofs.YtifachjefpcgcaaGreatDoorW.PrintLast Go.Proofs.YtifachjefpcgcaaGreatDoorW.PrintMore
attribute [local go_sem] max2_int min2_int max_two min_two max_three min_three max_four min_four
set_option linter.unusedVariables false
set_option linter.unusedSimpArgs false
def scan_reader_next.T1 : Bool × List (List Nat × List Nat) := (true, [([], []), ([0], [0]), ([1], [1]), ([2], [2]), ([], []), ([4], [4]), ([5], [5]), ([6], [6]), ([3, 7], [3, 7]), ([8], [8]), ([9], [9]), ([9], [9]), ([], []), ([12, 10, 8, 0, 1, 2, 3, 4, 5, 6, 7, 8, 9, 10, 12], [10, 12]), ([11, 13, 0, 1, 2, 3, 4, 5, 6, 7, 8, 9, 10, 11, 12, 13], [11])])
def scan_reader_next.B1 : List Nat := [0, 1, 3, 7, 0, 16, 48, 112, 255, 511, 1023, 1023, 0, 6143, 16383]
theorem scan_reader_next.tab1 : rtab .any (opsOf Tryz.f69 1) = scan_reader_next.T1 := by kernel_rfl
theorem scan_reader_next.bits1 : waitsOk scan_reader_next.T1.2 scan_reader_next.B1 = true := by kernel_rfl
def scan_reader_next.T5 : Bool × List (List Nat × List Nat) := (true, [([], []), ([], []), ([1], [1]), ([2], [2]), ([3], [3]), ([], []), ([5], [5]), ([], []), ([7], [7]), ([4, 6, 8], [4, 6, 8]), ([0, 0], [0]), ([9, 10, 0, 1, 2, 3, 4, 5, 6, 7, 8, 9, 10], [9])])
def scan_reader_next.B5 : List Nat := [0, 0, 2, 6, 14, 0, 32, 0, 128, 510, 1, 2047]
theorem scan_reader_next.tab5 : rtab .any (opsOf Tryz.f69 5) = scan_reader_next.T5 := by kernel_rfl
theorem scan_reader_next.bits5 : waitsOk scan_reader_next.T5.2 scan_reader_next.B5 = true := by kernel_rfl
set_option maxHeartbeats 8000000 in
set_option maxRecDepth 100000 in
theorem scan_reader_next.calls (k : Nat) (g : Nat) (s0_0 : ByteArray) (s0_1 : Int) (r1 : Bool) (r2 : Int) (r3 : Int) (r4 : Int) (r5 : Int) (r6 : Int) (r7 : ByteArray) (r8 : ByteArray) (r9 : Int) (w0 w : World) (hI : IsS76 w0 w g s0_0 s0_1) (hB : Below w0.heap.size w0 w) (h : scan_reader_next.f k s0_0 s0_1 = some (r1, r2, r3, r4, r5, r6, r7, r8, r9)) (hI_ : Inv w0) :
  Calls Tryz.prog 69 #[.pointer (some ⟨g, 0, none⟩)] w fun e w' => e = cond r1 (Ending.panicked [{ v := .iface 26 (.agg #[.int .i64 r2, .int .i64 r3]), recovered := false }]) (Ending.returned (.tuple #[.agg #[.int .i64 r4, .int .i64 r5, .int .i64 r6], .string r7])) ∧ IsS76 w0 w' g r8 r9 ∧ Below w0.heap.size w0 w' ∧ KeepBut w w' g none := by
 have HI := Aside0.mk hI_
 clear hI_
 have hu81 := Tryz.underlying81
 have hu26 := Tryz.underlying26
 have HI0 := Aside0.mk hI
 have HK := Aside0.mk (KeepBut.refl w g none)
 have HL := Aside0.mk hB.size
 clear hI
 have HW0 := Aside0.mk hB.size
 have HB := Aside0.mk hB
 clear hB
 have H : ((lex_Next.f k s0_0 s0_1).bind fun bt323 => (if bt323.2.2.2 = 0 then (if 0 ≤ bt323.2.1 then (if bt323.2.1 ≤ bt323.2.2.1 then (if bt323.2.2.1 ≤ (s0_0.size : Int) then (some (false, 0, 0, bt323.1, bt323.2.1, bt323.2.2.1, s0_0.extract (bt323.2.1 : Int).toNat (bt323.2.2.1 : Int).toNat, s0_0, bt323.2.2.1)) else (none)) else (none)) else (none)) else (some (true, bt323.2.2.2, bt323.2.1, 0, 0, 0, (⟨#[]⟩ : ByteArray), s0_0, s0_1)))) = some (r1, r2, r3, r4, r5, r6, r7, r8, r9) := h
 clear h
 replace H := Option.bind_eq_some_iff.mp H
 obtain ⟨⟨t323, t324, t325, t326⟩, A20, H⟩ := H
 replace H : (if t326 = 0 then (if 0 ≤ t324 then (if t324 ≤ t325 then (if t325 ≤ (s0_0.size : Int) then (some (false, 0, 0, t323, t324, t325, s0_0.extract (t324 : Int).toNat (t325 : Int).toNat, s0_0, t325)) else (none)) else (none)) else (none)) else (some (true, t326, t324, 0, 0, 0, (⟨#[]⟩ : ByteArray), s0_0, s0_1))) = some (r1, r2, r3, r4, r5, r6, r7, r8, r9) := H
 have A2 := Aside0.mk A20
 clear A20
 by_cases c3 : t326 = 0
 ·rw [if_pos c3] at H
  have c3b0 : (t326 == 0) = true := beq_iff_eq.mpr c3
  have c3b1 : (t326 != 0) = false := bne_eq_false_iff_eq.mpr c3
  clear c3
  by_cases c4 : 0 ≤ t324
  ·rw [if_pos c4] at H
   have c4b0 := eq_true c4
   have c4b1 : decide (0 ≤ t324) = true := decide_eq_true c4
   clear c4
   by_cases c5 : t324 ≤ t325
   ·rw [if_pos c5] at H
    have c5b0 := eq_true c5
    have c5b1 : decide (t324 ≤ t325) = true := decide_eq_true c5
    clear c5
    by_cases c6 : t325 ≤ (s0_0.size : Int)
    ·rw [if_pos c6] at H
     have c6b0 := eq_true c6
     have c6b1 : decide (t325 ≤ (s0_0.size : Int)) = true := decide_eq_true c6
     clear c6
     simp only [Option.some.injEq, Prod.mk.injEq] at H
     obtain ⟨rfl, rfl, rfl, rfl, rfl, rfl, rfl, rfl, rfl⟩ := H
     go_enter Tryz.func69, Tryz.ntmps69
     try go_wp2_with (first | ((with_reducible refine gate_dst (N := 2) rfl ?_); refine box_event ?hg (N := 2) ?hd (cs := #[.int .i64 0, .int .i64 0, .int .i64 0]) (t := 81) ?hr ?_; (case hd => rfl); (case hg => rfl); (case hr => first | (go_simp; done) | (go_simp; rfl)); intro gb322 hg w7 hbox hb; have n0_ := Aside0.mk (IsS76.below (by repeat (first | (with_reducible first | exact HI0.out | apply IsS76.alloc | apply IsS76.drewN | apply IsS76.drew | apply IsS76.set_0 | apply IsS76.set_1) | exact HI0.out)) hb); have n1_ := Aside0.mk (KeepBut.trans (by repeat (first | (with_reducible first | exact HK.out | apply bk1 | apply bk2 | apply bk3 | apply bk4) | exact HK.out)) (KeepBut.of_below hb g none) (.inl rfl)); have n2_ := Aside0.mk (below_step (by repeat (first | (with_reducible first | exact HB.out | apply bw1 | apply bw2 | apply bw3 | refine below_set ?_ (IsS76.ge HI0.out)) | exact HB.out)) hb); have n3_ := Aside0.mk (hbox); have n4_ := Aside0.mk ((by rw [hg]; exact (keep_size (w := w) (g := g) (row := none) (by repeat (first | (with_reducible first | exact HK.out | apply bk1 | apply bk2 | apply bk3 | apply bk4) | exact HK.out))) : w.heap.size ≤ gb322)); have n5_ := Aside0.mk ((Nat.le_trans HW0.out n4_.out : w0.heap.size ≤ gb322)); have n6_ := Aside0.mk ((by rw [hg]; exact Nat.ne_of_lt (IsS76.lt (show IsS76 w0 _ g s0_0 s0_1 from by repeat (first | (with_reducible first | exact HI0.out | apply IsS76.alloc | apply IsS76.drewN | apply IsS76.drew | apply IsS76.set_0 | apply IsS76.set_1) | exact HI0.out))) : g ≠ gb322)); have n7_ := Aside0.mk (Ne.symm n6_.out); clear HI0 HK HB; have HI0 := n0_; have HK := n1_; have HB := n2_; have BK322 := n3_; have GW322 := n4_; have GE322 := n5_; have NB0_322 := n6_; have NB322_0 := n7_; clear n0_ n1_ n2_ n3_ n4_ n5_ n6_ n7_; clear hb hbox hg))
     have n0_ := Aside0.mk (blk_drew BK322.out)
     have n1_ := Aside0.mk (IsS76.drew HI0.out)
     have n2_ := Aside0.mk (keep_drew HK.out)
     have n3_ := Aside0.mk (below_drew1 HB.out)
     clear BK322 HI0 HK HB
     have BK322 := n0_
     have HI0 := n1_
     have HK := n2_
     have HB := n3_
     clear n0_ n1_ n2_ n3_
     refine start_ (n := 15) (S := fun w' => w'.cell? ⟨g, 0, none⟩ = some (.string s0_0) ∧ w'.cell? ⟨g, 1, none⟩ = some (.int .i64 s0_1)) (ds := []) #[false, false, false, false, false, false, false, false, false, false, false, false, false, false, false] (by kernel_rfl) rfl rfl ⟨(blk_cell HI0.out.1 0).trans rfl, (blk_cell HI0.out.1 1).trans rfl⟩ (fun hHeld => ?_); refine with_tabW scan_reader_next.tab1 scan_reader_next.bits1 (fun HT_ HW_ => ?_)
     generalize w7.drew = w8 at BK322 HI0 HK HB hHeld ⊢
     refine pure_ (i := 0) (N := some 7) (v := ?_) (a' := ?_) #[true, false, false, false, false, false, false, false, false, false, false, false, false, false, false] rfl rfl (any_of HT_.out (by kernel_rfl)) (fun _ _ _ h => h) (Or.inl ⟨by rfl, ?_⟩) ?_ ?_
     rotate_left
     ·intro w'
      go_simp
      with_reducible rfl
     rotate_left
     ·simp only [Act.put, List.setIfInBounds_toArray, List.set_cons_zero, List.set_cons_succ, i64_w, i32_w]
      rfl
     refine pure_ (i := 1) (N := some 8) (v := ?_) (a' := ?_) #[true, true, false, false, false, false, false, false, false, false, false, false, false, false, false] rfl rfl (any_of HT_.out (by kernel_rfl)) (fun _ _ _ h => h) (Or.inl ⟨by rfl, ?_⟩) ?_ ?_
     rotate_left
     ·intro w'
      go_simp
      with_reducible rfl
     rotate_left
     ·simp only [Act.put, List.setIfInBounds_toArray, List.set_cons_zero, List.set_cons_succ, i64_w, i32_w]
      rfl
     refine pure_ (i := 2) (N := some 9) (v := ?_) (a' := ?_) #[true, true, true, false, false, false, false, false, false, false, false, false, false, false, false] rfl rfl (any_of HT_.out (by kernel_rfl)) (fun _ _ _ h => h) (Or.inl ⟨by rfl, ?_⟩) ?_ ?_
     rotate_left
     ·intro w'
      go_simp
      with_reducible rfl
     rotate_left
     ·simp only [Act.put, List.setIfInBounds_toArray, List.set_cons_zero, List.set_cons_succ, i64_w, i32_w]
      rfl
     refine pure_ (i := 4) (N := some 11) (v := ?_) (a' := ?_) #[true, true, true, false, true, false, false, false, false, false, false, false, false, false, false] rfl rfl (any_of HT_.out (by kernel_rfl)) (fun _ _ _ h => h) (Or.inl ⟨by rfl, ?_⟩) ?_ ?_
     rotate_left
     ·intro w'
      go_simp
      with_reducible rfl
     rotate_left
     ·simp only [Act.put, List.setIfInBounds_toArray, List.set_cons_zero, List.set_cons_succ, i64_w, i32_w]
      rfl
     refine pure_ (i := 5) (N := some 12) (v := ?_) (a' := ?_) #[true, true, true, false, true, true, false, false, false, false, false, false, false, false, false] rfl rfl (any_of HT_.out (by kernel_rfl)) (fun _ _ _ h => h) (Or.inl ⟨by rfl, ?_⟩) ?_ ?_
     rotate_left
     ·intro w'
      go_simp
      with_reducible rfl
     rotate_left
     ·simp only [Act.put, List.setIfInBounds_toArray, List.set_cons_zero, List.set_cons_succ, i64_w, i32_w]
      rfl
     refine pure_ (i := 6) (N := some 13) (v := ?_) (a' := ?_) #[true, true, true, false, true, true, true, false, false, false, false, false, false, false, false] rfl rfl (any_of HT_.out (by kernel_rfl)) (fun _ _ _ h => h) (Or.inl ⟨by rfl, ?_⟩) ?_ ?_
     rotate_left
     ·intro w'
      go_simp
      with_reducible rfl
     rotate_left
     ·simp only [Act.put, List.setIfInBounds_toArray, List.set_cons_zero, List.set_cons_succ, i64_w, i32_w]
      rfl
     refine take_ (i := 3) (N := some 10) (v := ?_) (a' := ?_) #[true, true, true, true, true, true, true, false, false, false, false, false, false, false, false] rfl rfl (take_ofW HT_.out HW_.out (by kernel_rfl)) (fun _ _ _ h => h) (Or.inl ⟨by rfl, ?_⟩) hHeld ?_ ?_
     rotate_left
     ·rintro w' ⟨s0, s1⟩
      go_simp
      with_reducible rfl
     rotate_left
     ·simp only [Act.put, List.setIfInBounds_toArray, List.set_cons_zero, List.set_cons_succ, i64_w, i32_w]
      rfl
     refine take_ (i := 7) (N := some 14) (v := ?_) (a' := ?_) #[true, true, true, true, true, true, true, true, false, false, false, false, false, false, false] rfl rfl (take_ofW HT_.out HW_.out (by kernel_rfl)) (fun _ _ _ h => h) (Or.inl ⟨by rfl, ?_⟩) hHeld ?_ ?_
     rotate_left
     ·rintro w' ⟨s0, s1⟩
      go_simp
      with_reducible rfl
     rotate_left
     ·simp only [Act.put, List.setIfInBounds_toArray, List.set_cons_zero, List.set_cons_succ, i64_w, i32_w]
      rfl
     refine join_ (σ := Nat) 2 #[true, true, true, true, true, true, true, true, true, true, true, true, true, false, false] (fun s_ => [(15, .tuple #[.agg #[.int .i64 t323, .int .i64 t324, .int .i64 t325], .int .i64 t326]), (4, .pointer (some ⟨s_, 0, none⟩)), (6, .tuple #[.agg #[.int .i64 t323, .int .i64 t324, .int .i64 t325], .int .i64 t326]), (16, .agg #[.int .i64 t323, .int .i64 t324, .int .i64 t325]), (17, .int .i64 t326)]) (fun s_ w' => (w'.cell? ⟨g, 0, none⟩ = some (.string s0_0) ∧ w'.cell? ⟨g, 1, none⟩ = some (.int .i64 s0_1)) ∧ (w'.heap[gb322]? = some (.cells #[.int .i64 0, .int .i64 0, .int .i64 0] 81 (0, 0))) ∧ (w'.heap[s_]? = some (.cells #[.int .i64 0, .int .i64 0, .int .i64 0] 81 (0, 0))) ∧ (w.heap.size ≤ s_) ∧ (w0.heap.size ≤ s_) ∧ (g ≠ s_) ∧ (s_ ≠ g) ∧ (gb322 ≠ s_) ∧ (s_ ≠ gb322) ∧ (IsS76 w0 w' g s0_0 s0_1) ∧ (KeepBut w w' g none) ∧ (Below w0.heap.size w0 w')) ?_ ?_
     rotate_left
     ·intro hCont
      refine two_ (i := 8) (j := 12) (Ni := some 15) (Nj := some 4) #[true, true, true, true, true, true, true, true, true, false, false, false, false, false, false] #[true, true, true, true, true, true, true, true, false, false, false, false, true, false, false] rfl rfl rfl rfl (two_of HT_.out (by kernel_rfl)) (by decide) (by decide) (fun K hK => ?_) (fun K hK => ?_)
      ·skip
       refine goes_ Tryz.func53 (by kernel_rfl) rfl #[.string s0_0, .int .i64 s0_1] (by rfl) rfl rfl (am.trans (by rfl)) ?_
       with_reducible refine (lex_Next.calls k s0_0 s0_1 t323 t324 t325 t326 _ A2.out (by first | exact HI.out | exact Inv.below HI.out (by repeat (first | (with_reducible first | exact HB.out | apply bw1 | apply bw2 | apply bw3 | refine below_set ?_ (IsS76.ge HI0.out) | refine below_set ?_ GE322.out) | exact HB.out)) | exact Inv.drawn HI.out (by repeat (first | exact Drawn0.refl _ | apply Drawn0.step)))).mono ?_
       rintro e w9 ⟨rfl, hb⟩
       refine ⟨_, rfl, ?_⟩
       have n0_ := Aside0.mk (IsS76.below (by repeat (first | (with_reducible first | exact HI0.out | apply IsS76.alloc | apply IsS76.drewN | apply IsS76.drew | apply IsS76.set_0 | apply IsS76.set_1 | apply IsS76.far (hne := NB0_322.out)) | exact HI0.out)) hb)
       have n1_ := Aside0.mk (blk_below (g := gb322) (o := .cells #[.int .i64 0, .int .i64 0, .int .i64 0] 81 (0, 0)) (by (with_reducible repeat (first | apply bd1 | apply bd2 | apply bd3)); exact BK322.out) hb)
       have n2_ := Aside0.mk (KeepBut.trans (by repeat (first | (with_reducible first | exact HK.out | apply bk1 | apply bk2 | apply bk3 | apply bk4 | refine keep_far ?_ GW322.out _) | exact HK.out)) (KeepBut.of_below hb g none) (.inl rfl))
       have n3_ := Aside0.mk (below_step (by repeat (first | (with_reducible first | exact HB.out | apply bw1 | apply bw2 | apply bw3 | refine below_set ?_ (IsS76.ge HI0.out) | refine below_set ?_ GE322.out) | exact HB.out)) hb)
       clear HI0 BK322 HK HB
       have HI0 := n0_
       have BK322 := n1_
       have HK := n2_
       have HB := n3_
       clear n0_ n1_ n2_ n3_
       (try clear hb)
       (try clear hb2)
       (try clear hk)
       (try clear hi)
       refine hK.out _ _ ⟨(blk_cell HI0.out.1 0).trans rfl, (blk_cell HI0.out.1 1).trans rfl⟩ (fun hHeld => ?_)
       clear hK K
       refine norm_ (a' := ?_) ?_ ?_
       rotate_left
       ·show Act.put _ (some 15) _ = _
        simp only [Act.put, List.setIfInBounds_toArray, List.set_cons_zero, List.set_cons_succ, i64_w, i32_w]
        rfl
       refine pure_ (i := 9) (N := some 6) (v := ?_) (a' := ?_) #[true, true, true, true, true, true, true, true, true, true, false, false, false, false, false] rfl rfl (any_of HT_.out (by kernel_rfl)) (fun _ _ _ h => h) (Or.inl ⟨by rfl, ?_⟩) ?_ ?_
       rotate_left
       ·intro w'
        go_simp
        with_reducible rfl
       rotate_left
       ·simp only [Act.put, List.setIfInBounds_toArray, List.set_cons_zero, List.set_cons_succ, i64_w, i32_w]
        rfl
       refine pure_ (i := 10) (N := some 16) (v := ?_) (a' := ?_) #[true, true, true, true, true, true, true, true, true, true, true, false, false, false, false] rfl rfl (any_of HT_.out (by kernel_rfl)) (fun _ _ _ h => h) (Or.inl ⟨by rfl, ?_⟩) ?_ ?_
       rotate_left
       ·intro w'
        go_simp
        with_reducible rfl
       rotate_left
       ·simp only [Act.put, List.setIfInBounds_toArray, List.set_cons_zero, List.set_cons_succ, i64_w, i32_w]
        rfl
       refine pure_ (i := 11) (N := some 17) (v := ?_) (a' := ?_) #[true, true, true, true, true, true, true, true, true, true, true, true, false, false, false] rfl rfl (any_of HT_.out (by kernel_rfl)) (fun _ _ _ h => h) (Or.inl ⟨by rfl, ?_⟩) ?_ ?_
       rotate_left
       ·intro w'
        go_simp
        with_reducible rfl
       rotate_left
       ·simp only [Act.put, List.setIfInBounds_toArray, List.set_cons_zero, List.set_cons_succ, i64_w, i32_w]
        rfl
       refine one_ (i := 12) (N := some 4) #[true, true, true, true, true, true, true, true, true, true, true, true, true, false, false] rfl rfl (one_of HT_.out (by kernel_rfl)) (by decide) (fun K hK => ?_)
       refine box_step ?hg (N := 4) ?hd (cs := #[.int .i64 0, .int .i64 0, .int .i64 0]) (t := 81) ?hr ?_; (case hd => rfl); (case hg => rfl); (case hr => first | (go_simp; done) | (go_simp; rfl))
       intro gb327 hg w10 hbox hb
       have n0_ := Aside0.mk (IsS76.below (by repeat (first | (with_reducible first | exact HI0.out | apply IsS76.alloc | apply IsS76.drewN | apply IsS76.drew | apply IsS76.set_0 | apply IsS76.set_1 | apply IsS76.far (hne := NB0_322.out)) | exact HI0.out)) hb)
       have n1_ := Aside0.mk (blk_below (g := gb322) (o := .cells #[.int .i64 0, .int .i64 0, .int .i64 0] 81 (0, 0)) (by (with_reducible repeat (first | apply bd1 | apply bd2 | apply bd3)); exact BK322.out) hb)
       have n2_ := Aside0.mk (KeepBut.trans (by repeat (first | (with_reducible first | exact HK.out | apply bk1 | apply bk2 | apply bk3 | apply bk4 | refine keep_far ?_ GW322.out _) | exact HK.out)) (KeepBut.of_below hb g none) (.inl rfl))
       have n3_ := Aside0.mk (below_step (by repeat (first | (with_reducible first | exact HB.out | apply bw1 | apply bw2 | apply bw3 | refine below_set ?_ (IsS76.ge HI0.out) | refine below_set ?_ GE322.out) | exact HB.out)) hb)
       have n4_ := Aside0.mk (hbox)
       have n5_ := Aside0.mk ((by rw [hg]; exact (keep_size (w := w) (g := g) (row := none) (by repeat (first | (with_reducible first | exact HK.out | apply bk1 | apply bk2 | apply bk3 | apply bk4 | refine keep_far ?_ GW322.out _) | exact HK.out))) : w.heap.size ≤ gb327))
       have n6_ := Aside0.mk ((Nat.le_trans HW0.out n5_.out : w0.heap.size ≤ gb327))
       have n7_ := Aside0.mk ((by rw [hg]; exact Nat.ne_of_lt (blk_lt (g := gb322) (o := .cells #[.int .i64 0, .int .i64 0, .int .i64 0] 81 (0, 0)) (by (with_reducible repeat (first | apply bd1 | apply bd2 | apply bd3)); exact BK322.out)) : gb322 ≠ gb327))
       have n8_ := Aside0.mk (Ne.symm n7_.out)
       have n9_ := Aside0.mk ((by rw [hg]; exact Nat.ne_of_lt (IsS76.lt (show IsS76 w0 _ g s0_0 s0_1 from by repeat (first | (with_reducible first | exact HI0.out | apply IsS76.alloc | apply IsS76.drewN | apply IsS76.drew | apply IsS76.set_0 | apply IsS76.set_1 | apply IsS76.far (hne := NB0_322.out)) | exact HI0.out))) : g ≠ gb327))
       have n10_ := Aside0.mk (Ne.symm n9_.out)
       clear HI0 BK322 HK HB
       have HI0 := n0_
       have BK322 := n1_
       have HK := n2_
       have HB := n3_
       have BK327 := n4_
       have GW327 := n5_
       have GE327 := n6_
       have NB322_327 := n7_
       have NB327_322 := n8_
       have NB0_327 := n9_
       have NB327_0 := n10_
       clear n0_ n1_ n2_ n3_ n4_ n5_ n6_ n7_ n8_ n9_ n10_ hb hbox hg
       refine hK.out _ _ ⟨(blk_cell HI0.out.1 0).trans rfl, (blk_cell HI0.out.1 1).trans rfl⟩ (fun hHeld => ?_)
       clear hK K
       refine norm_ (a' := ?_) ?_ ?_
       rotate_left
       ·show Act.put _ (some 4) _ = _
        simp only [Act.put, List.setIfInBounds_toArray, List.set_cons_zero, List.set_cons_succ, i64_w, i32_w]
        rfl
       exact norm_ (by simp only [putAll, Act.put, List.setIfInBounds_toArray, List.set_cons_zero, List.set_cons_succ]) (hCont (gb327) _ ⟨hHeld, (by (with_reducible repeat (first | apply bd1 | apply bd2 | apply bd3)); exact BK322.out), (by (with_reducible repeat (first | apply bd1 | apply bd2 | apply bd3)); exact BK327.out), GW327.out, GE327.out, NB0_327.out, NB327_0.out, NB322_327.out, NB327_322.out, (by repeat (first | (with_reducible first | exact HI0.out | apply IsS76.alloc | apply IsS76.drewN | apply IsS76.drew | apply IsS76.set_0 | apply IsS76.set_1 | apply IsS76.far (hne := NB0_322.out) | apply IsS76.far (hne := NB0_327.out)) | exact HI0.out)), (by repeat (first | (with_reducible first | exact HK.out | apply bk1 | apply bk2 | apply bk3 | apply bk4 | refine keep_far ?_ GW322.out _ | refine keep_far ?_ GW327.out _) | exact HK.out)), (by repeat (first | (with_reducible first | exact HB.out | apply bw1 | apply bw2 | apply bw3 | refine below_set ?_ (IsS76.ge HI0.out) | refine below_set ?_ GE322.out | refine below_set ?_ GE327.out) | exact HB.out))⟩)
      ·skip
       refine box_step ?hg (N := 4) ?hd (cs := #[.int .i64 0, .int .i64 0, .int .i64 0]) (t := 81) ?hr ?_; (case hd => rfl); (case hg => rfl); (case hr => first | (go_simp; done) | (go_simp; rfl))
       intro gb327 hg w9 hbox hb
       have n0_ := Aside0.mk (IsS76.below (by repeat (first | (with_reducible first | exact HI0.out | apply IsS76.alloc | apply IsS76.drewN | apply IsS76.drew | apply IsS76.set_0 | apply IsS76.set_1 | apply IsS76.far (hne := NB0_322.out)) | exact HI0.out)) hb)
       have n1_ := Aside0.mk (blk_below (g := gb322) (o := .cells #[.int .i64 0, .int .i64 0, .int .i64 0] 81 (0, 0)) (by (with_reducible repeat (first | apply bd1 | apply bd2 | apply bd3)); exact BK322.out) hb)
       have n2_ := Aside0.mk (KeepBut.trans (by repeat (first | (with_reducible first | exact HK.out | apply bk1 | apply bk2 | apply bk3 | apply bk4 | refine keep_far ?_ GW322.out _) | exact HK.out)) (KeepBut.of_below hb g none) (.inl rfl))
       have n3_ := Aside0.mk (below_step (by repeat (first | (with_reducible first | exact HB.out | apply bw1 | apply bw2 | apply bw3 | refine below_set ?_ (IsS76.ge HI0.out) | refine below_set ?_ GE322.out) | exact HB.out)) hb)
       have n4_ := Aside0.mk (hbox)
       have n5_ := Aside0.mk ((by rw [hg]; exact (keep_size (w := w) (g := g) (row := none) (by repeat (first | (with_reducible first | exact HK.out | apply bk1 | apply bk2 | apply bk3 | apply bk4 | refine keep_far ?_ GW322.out _) | exact HK.out))) : w.heap.size ≤ gb327))
       have n6_ := Aside0.mk ((Nat.le_trans HW0.out n5_.out : w0.heap.size ≤ gb327))
       have n7_ := Aside0.mk ((by rw [hg]; exact Nat.ne_of_lt (blk_lt (g := gb322) (o := .cells #[.int .i64 0, .int .i64 0, .int .i64 0] 81 (0, 0)) (by (with_reducible repeat (first | apply bd1 | apply bd2 | apply bd3)); exact BK322.out)) : gb322 ≠ gb327))
       have n8_ := Aside0.mk (Ne.symm n7_.out)
       have n9_ := Aside0.mk ((by rw [hg]; exact Nat.ne_of_lt (IsS76.lt (show IsS76 w0 _ g s0_0 s0_1 from by repeat (first | (with_reducible first | exact HI0.out | apply IsS76.alloc | apply IsS76.drewN | apply IsS76.drew | apply IsS76.set_0 | apply IsS76.set_1 | apply IsS76.far (hne := NB0_322.out)) | exact HI0.out))) : g ≠ gb327))
       have n10_ := Aside0.mk (Ne.symm n9_.out)
       clear HI0 BK322 HK HB
       have HI0 := n0_
       have BK322 := n1_
       have HK := n2_
       have HB := n3_
       have BK327 := n4_
       have GW327 := n5_
       have GE327 := n6_
       have NB322_327 := n7_
       have NB327_322 := n8_
       have NB0_327 := n9_
       have NB327_0 := n10_
       clear n0_ n1_ n2_ n3_ n4_ n5_ n6_ n7_ n8_ n9_ n10_ hb hbox hg
       refine hK.out _ _ ⟨(blk_cell HI0.out.1 0).trans rfl, (blk_cell HI0.out.1 1).trans rfl⟩ (fun hHeld => ?_)
       clear hK K
       refine norm_ (a' := ?_) ?_ ?_
       rotate_left
       ·show Act.put _ (some 4) _ = _
        simp only [Act.put, List.setIfInBounds_toArray, List.set_cons_zero, List.set_cons_succ, i64_w, i32_w]
        rfl
       refine one_ (i := 8) (N := some 15) #[true, true, true, true, true, true, true, true, true, false, false, false, true, false, false] rfl rfl (one_of HT_.out (by kernel_rfl)) (by decide) (fun K hK => ?_)
       refine goes_ Tryz.func53 (by kernel_rfl) rfl #[.string s0_0, .int .i64 s0_1] (by rfl) rfl rfl (am.trans (by rfl)) ?_
       with_reducible refine (lex_Next.calls k s0_0 s0_1 t323 t324 t325 t326 _ A2.out (by first | exact HI.out | exact Inv.below HI.out (by repeat (first | (with_reducible first | exact HB.out | apply bw1 | apply bw2 | apply bw3 | refine below_set ?_ (IsS76.ge HI0.out) | refine below_set ?_ GE322.out | refine below_set ?_ GE327.out) | exact HB.out)) | exact Inv.drawn HI.out (by repeat (first | exact Drawn0.refl _ | apply Drawn0.step)))).mono ?_
       rintro e w10 ⟨rfl, hb⟩
       refine ⟨_, rfl, ?_⟩
       have n0_ := Aside0.mk (IsS76.below (by repeat (first | (with_reducible first | exact HI0.out | apply IsS76.alloc | apply IsS76.drewN | apply IsS76.drew | apply IsS76.set_0 | apply IsS76.set_1 | apply IsS76.far (hne := NB0_322.out) | apply IsS76.far (hne := NB0_327.out)) | exact HI0.out)) hb)
       have n1_ := Aside0.mk (blk_below (g := gb322) (o := .cells #[.int .i64 0, .int .i64 0, .int .i64 0] 81 (0, 0)) (by (with_reducible repeat (first | apply bd1 | apply bd2 | apply bd3)); exact BK322.out) hb)
       have n2_ := Aside0.mk (blk_below (g := gb327) (o := .cells #[.int .i64 0, .int .i64 0, .int .i64 0] 81 (0, 0)) (by (with_reducible repeat (first | apply bd1 | apply bd2 | apply bd3)); exact BK327.out) hb)
       have n3_ := Aside0.mk (KeepBut.trans (by repeat (first | (with_reducible first | exact HK.out | apply bk1 | apply bk2 | apply bk3 | apply bk4 | refine keep_far ?_ GW322.out _ | refine keep_far ?_ GW327.out _) | exact HK.out)) (KeepBut.of_below hb g none) (.inl rfl))
       have n4_ := Aside0.mk (below_step (by repeat (first | (with_reducible first | exact HB.out | apply bw1 | apply bw2 | apply bw3 | refine below_set ?_ (IsS76.ge HI0.out) | refine below_set ?_ GE322.out | refine below_set ?_ GE327.out) | exact HB.out)) hb)
       clear HI0 BK322 BK327 HK HB
       have HI0 := n0_
       have BK322 := n1_
       have BK327 := n2_
       have HK := n3_
       have HB := n4_
       clear n0_ n1_ n2_ n3_ n4_
       (try clear hb)
       (try clear hb2)
       (try clear hk)
       (try clear hi)
       refine hK.out _ _ ⟨(blk_cell HI0.out.1 0).trans rfl, (blk_cell HI0.out.1 1).trans rfl⟩ (fun hHeld => ?_)
       clear hK K
       refine norm_ (a' := ?_) ?_ ?_
       rotate_left
       ·show Act.put _ (some 15) _ = _
        simp only [Act.put, List.setIfInBounds_toArray, List.set_cons_zero, List.set_cons_succ, i64_w, i32_w]
        rfl
       refine pure_ (i := 9) (N := some 6) (v := ?_) (a' := ?_) #[true, true, true, true, true, true, true, true, true, true, false, false, true, false, false] rfl rfl (any_of HT_.out (by kernel_rfl)) (fun _ _ _ h => h) (Or.inl ⟨by rfl, ?_⟩) ?_ ?_
       rotate_left
       ·intro w'
        go_simp
        with_reducible rfl
       rotate_left
       ·simp only [Act.put, List.setIfInBounds_toArray, List.set_cons_zero, List.set_cons_succ, i64_w, i32_w]
        rfl
       refine pure_ (i := 10) (N := some 16) (v := ?_) (a' := ?_) #[true, true, true, true, true, true, true, true, true, true, true, false, true, false, false] rfl rfl (any_of HT_.out (by kernel_rfl)) (fun _ _ _ h => h) (Or.inl ⟨by rfl, ?_⟩) ?_ ?_
       rotate_left
       ·intro w'
        go_simp
        with_reducible rfl
       rotate_left
       ·simp only [Act.put, List.setIfInBounds_toArray, List.set_cons_zero, List.set_cons_succ, i64_w, i32_w]
        rfl
       refine pure_ (i := 11) (N := some 17) (v := ?_) (a' := ?_) #[true, true, true, true, true, true, true, true, true, true, true, true, true, false, false] rfl rfl (any_of HT_.out (by kernel_rfl)) (fun _ _ _ h => h) (Or.inl ⟨by rfl, ?_⟩) ?_ ?_
       rotate_left
       ·intro w'
        go_simp
        with_reducible rfl
       rotate_left
       ·simp only [Act.put, List.setIfInBounds_toArray, List.set_cons_zero, List.set_cons_succ, i64_w, i32_w]
        rfl
       exact norm_ (by simp only [putAll, Act.put, List.setIfInBounds_toArray, List.set_cons_zero, List.set_cons_succ]) (hCont (gb327) _ ⟨hHeld, (by (with_reducible repeat (first | apply bd1 | apply bd2 | apply bd3)); exact BK322.out), (by (with_reducible repeat (first | apply bd1 | apply bd2 | apply bd3)); exact BK327.out), GW327.out, GE327.out, NB0_327.out, NB327_0.out, NB322_327.out, NB327_322.out, (by repeat (first | (with_reducible first | exact HI0.out | apply IsS76.alloc | apply IsS76.drewN | apply IsS76.drew | apply IsS76.set_0 | apply IsS76.set_1 | apply IsS76.far (hne := NB0_322.out) | apply IsS76.far (hne := NB0_327.out)) | exact HI0.out)), (by repeat (first | (with_reducible first | exact HK.out | apply bk1 | apply bk2 | apply bk3 | apply bk4 | refine keep_far ?_ GW322.out _ | refine keep_far ?_ GW327.out _) | exact HK.out)), (by repeat (first | (with_reducible first | exact HB.out | apply bw1 | apply bw2 | apply bw3 | refine below_set ?_ (IsS76.ge HI0.out) | refine below_set ?_ GE322.out | refine below_set ?_ GE327.out) | exact HB.out))⟩)
     rintro gb327 w11 ⟨hS_, h0_, h1_, h2_, h3_, h4_, h5_, h6_, h7_, h8_, h9_, h10_⟩
     have n0_ : Aside0 (w11.heap[gb322]? = some (.cells #[.int .i64 0, .int .i64 0, .int .i64 0] 81 (0, 0))) := ⟨h0_⟩
     have n1_ : Aside0 (w11.heap[gb327]? = some (.cells #[.int .i64 0, .int .i64 0, .int .i64 0] 81 (0, 0))) := ⟨h1_⟩
     have n2_ : Aside0 (w.heap.size ≤ gb327) := ⟨h2_⟩
     have n3_ : Aside0 (w0.heap.size ≤ gb327) := ⟨h3_⟩
     have n4_ : Aside0 (g ≠ gb327) := ⟨h4_⟩
     have n5_ : Aside0 (gb327 ≠ g) := ⟨h5_⟩
     have n6_ : Aside0 (gb322 ≠ gb327) := ⟨h6_⟩
     have n7_ : Aside0 (gb327 ≠ gb322) := ⟨h7_⟩
     have n8_ : Aside0 (IsS76 w0 w11 g s0_0 s0_1) := ⟨h8_⟩
     have n9_ : Aside0 (KeepBut w w11 g none) := ⟨h9_⟩
     have n10_ : Aside0 (Below w0.heap.size w0 w11) := ⟨h10_⟩
     clear BK322 HI0 HK HB h0_ h1_ h2_ h3_ h4_ h5_ h6_ h7_ h8_ h9_ h10_
     have BK322 := n0_
     have BK327 := n1_
     have GW327 := n2_
     have GE327 := n3_
     have NB0_327 := n4_
     have NB327_0 := n5_
     have NB322_327 := n6_
     have NB327_322 := n7_
     have HI0 := n8_
     have HK := n9_
     have HB := n10_
     clear n0_ n1_ n2_ n3_ n4_ n5_ n6_ n7_ n8_ n9_ n10_
     have hHeld : w11.cell? ⟨g, 0, none⟩ = some (.string s0_0) ∧ w11.cell? ⟨g, 1, none⟩ = some (.int .i64 s0_1) := hS_
     refine norm_ (a' := ?_) ?_ ?_
     rotate_left
     ·simp only [putAll, Act.put, List.setIfInBounds_toArray, List.set_cons_zero, List.set_cons_succ]
      rfl
     refine one_ (i := 13) (N := none) #[true, true, true, true, true, true, true, true, true, true, true, true, true, true, false] rfl rfl (one_of HT_.out (by kernel_rfl)) (by decide) (fun K hK => ?_)
     have hs12 : w11.cell? ⟨gb327, 0, none⟩ = some (.int .i64 0) := (blk_cell BK327.out 0).trans rfl
     have hfs12 := blk_frozen BK327.out 0
     have hns12_0 := NB322_327.out
     have hms12_0 := NB327_322.out
     have hs13 : w11.cell? ⟨gb327, 1, none⟩ = some (.int .i64 0) := (blk_cell BK327.out 1).trans rfl
     have hfs13 := blk_frozen BK327.out 1
     have hns13_0 := NB322_327.out
     have hms13_0 := NB327_322.out
     have hs14 : w11.cell? ⟨gb327, 2, none⟩ = some (.int .i64 0) := (blk_cell BK327.out 2).trans rfl
     have hfs14 := blk_frozen BK327.out 2
     have hns14_0 := NB322_327.out
     have hms14_0 := NB327_322.out
     refine skip_ (w1 := ?_) (by rfl) rfl ?_ ?_
     rotate_left
     ·go_simp
      rfl
     refine hK.out _ _ ⟨((cell_far (p := ⟨gb327, _, none⟩) (by first | exact NB0_327.out | (rw [add_block]; exact NB0_327.out) | (show (Addr.add _ _).block ≠ _; rw [add_block]; exact NB0_327.out) | (dsimp only; exact NB0_327.out)) _).trans (((cell_far (p := ⟨gb327, _, none⟩) (by first | exact NB0_327.out | (rw [add_block]; exact NB0_327.out) | (show (Addr.add _ _).block ≠ _; rw [add_block]; exact NB0_327.out) | (dsimp only; exact NB0_327.out)) _).trans (((cell_far (p := ⟨gb327, _, none⟩) (by first | exact NB0_327.out | (rw [add_block]; exact NB0_327.out) | (show (Addr.add _ _).block ≠ _; rw [add_block]; exact NB0_327.out) | (dsimp only; exact NB0_327.out)) _).trans (hHeld.1)))))), ((cell_far (p := ⟨gb327, _, none⟩) (by first | exact NB0_327.out | (rw [add_block]; exact NB0_327.out) | (show (Addr.add _ _).block ≠ _; rw [add_block]; exact NB0_327.out) | (dsimp only; exact NB0_327.out)) _).trans (((cell_far (p := ⟨gb327, _, none⟩) (by first | exact NB0_327.out | (rw [add_block]; exact NB0_327.out) | (show (Addr.add _ _).block ≠ _; rw [add_block]; exact NB0_327.out) | (dsimp only; exact NB0_327.out)) _).trans (((cell_far (p := ⟨gb327, _, none⟩) (by first | exact NB0_327.out | (rw [add_block]; exact NB0_327.out) | (show (Addr.add _ _).block ≠ _; rw [add_block]; exact NB0_327.out) | (dsimp only; exact NB0_327.out)) _).trans (hHeld.2))))))⟩ (fun hHeld => ?_)
     clear hK K
     refine pure_ (i := 14) (N := some 5) (v := ?_) (a' := ?_) #[true, true, true, true, true, true, true, true, true, true, true, true, true, true, true] rfl rfl (any_of HT_.out (by kernel_rfl)) (fun _ _ _ h => h) (Or.inl ⟨by rfl, ?_⟩) ?_ ?_
     rotate_left
     ·intro w'
      go_simp
      with_reducible rfl
     rotate_left
     ·simp only [Act.put, List.setIfInBounds_toArray, List.set_cons_zero, List.set_cons_succ, i64_w, i32_w]
      rfl
     refine done_ (done_of HT_.out (by kernel_rfl)) ?_
     have hnb15 := NB327_322.out
     have hnc15 := NB322_327.out
     have hnb16 := NB327_0.out
     have hnc16 := NB0_327.out
     have hcz17_0 : w11.cell? ⟨gb327, 0, none⟩ = some (.int .i64 0) := (blk_cell BK327.out 0).trans rfl
     have hcz17_1 : w11.cell? ⟨gb327, 1, none⟩ = some (.int .i64 0) := (blk_cell BK327.out 1).trans rfl
     have hcz17_2 : w11.cell? ⟨gb327, 2, none⟩ = some (.int .i64 0) := (blk_cell BK327.out 2).trans rfl
     have hfz17_0 := blk_frozen BK327.out 0
     have hfz17_1 := blk_frozen BK327.out 1
     have hfz17_2 := blk_frozen BK327.out 2
     obtain ⟨HGz18, hgz18⟩ := HI0.out
     have hcz18_0 := cellS76_0 HGz18
     have hcz18_1 := cellS76_1 HGz18
     have hfz18_0 := blk_frozen HGz18 0
     have hfz18_1 := blk_frozen HGz18 1
     clear HGz18 hgz18
     try go_wp2
     have n0_ : Aside0 (((((w11.setCell ⟨gb327, 0, none⟩ (.int .i64 t323)).setCell ⟨gb327, 1, none⟩ (.int .i64 t324)).setCell ⟨gb327, 2, none⟩ (.int .i64 t325)).setCell ⟨g, 1, none⟩ (.int .i64 t325)).heap[gb322]? = some (.cells #[.int .i64 0, .int .i64 0, .int .i64 0] 81 (0, 0))) := ⟨by (with_reducible repeat (first | apply bd1 | apply bd2 | apply bd3)); refine blk_far ?_ NB322_0.out _; (with_reducible repeat (first | apply bd1 | apply bd2 | apply bd3)); refine blk_far ?_ NB322_327.out _; (with_reducible repeat (first | apply bd1 | apply bd2 | apply bd3)); refine blk_far ?_ NB322_327.out _; (with_reducible repeat (first | apply bd1 | apply bd2 | apply bd3)); refine blk_far ?_ NB322_327.out _; (with_reducible repeat (first | apply bd1 | apply bd2 | apply bd3)); exact BK322.out⟩
     have n1_ : Aside0 (((((w11.setCell ⟨gb327, 0, none⟩ (.int .i64 t323)).setCell ⟨gb327, 1, none⟩ (.int .i64 t324)).setCell ⟨gb327, 2, none⟩ (.int .i64 t325)).setCell ⟨g, 1, none⟩ (.int .i64 t325)).heap[gb327]? = some (.cells #[.int .i64 t323, .int .i64 t324, .int .i64 t325] 81 (0, 0))) := ⟨by (with_reducible repeat (first | apply bd1 | apply bd2 | apply bd3)); refine blk_far ?_ NB327_0.out _; (with_reducible repeat (first | apply bd1 | apply bd2 | apply bd3)); refine blk_put (cs := #[.int .i64 t323, .int .i64 t324, .int .i64 0]) ?_ 2 _ rfl; (with_reducible repeat (first | apply bd1 | apply bd2 | apply bd3)); refine blk_put (cs := #[.int .i64 t323, .int .i64 0, .int .i64 0]) ?_ 1 _ rfl; (with_reducible repeat (first | apply bd1 | apply bd2 | apply bd3)); refine blk_put (cs := #[.int .i64 0, .int .i64 0, .int .i64 0]) ?_ 0 _ rfl; (with_reducible repeat (first | apply bd1 | apply bd2 | apply bd3)); exact BK327.out⟩
     have n2_ : Aside0 (IsS76 w0 ((((w11.setCell ⟨gb327, 0, none⟩ (.int .i64 t323)).setCell ⟨gb327, 1, none⟩ (.int .i64 t324)).setCell ⟨gb327, 2, none⟩ (.int .i64 t325)).setCell ⟨g, 1, none⟩ (.int .i64 t325)) g s0_0 t325) := ⟨by repeat (first | (with_reducible first | exact HI0.out | apply IsS76.alloc | apply IsS76.drewN | apply IsS76.drew | apply IsS76.set_0 | apply IsS76.set_1 | apply IsS76.far (hne := NB0_322.out) | apply IsS76.far (hne := NB0_327.out)) | exact HI0.out)⟩
     have n3_ : Aside0 (KeepBut w ((((w11.setCell ⟨gb327, 0, none⟩ (.int .i64 t323)).setCell ⟨gb327, 1, none⟩ (.int .i64 t324)).setCell ⟨gb327, 2, none⟩ (.int .i64 t325)).setCell ⟨g, 1, none⟩ (.int .i64 t325)) g none) := ⟨by repeat (first | (with_reducible first | exact HK.out | apply bk1 | apply bk2 | apply bk3 | apply bk4 | refine keep_far ?_ GW322.out _ | refine keep_far ?_ GW327.out _) | exact HK.out)⟩
     have n4_ : Aside0 (Below w0.heap.size w0 ((((w11.setCell ⟨gb327, 0, none⟩ (.int .i64 t323)).setCell ⟨gb327, 1, none⟩ (.int .i64 t324)).setCell ⟨gb327, 2, none⟩ (.int .i64 t325)).setCell ⟨g, 1, none⟩ (.int .i64 t325))) := ⟨by repeat (first | (with_reducible first | exact HB.out | apply bw1 | apply bw2 | apply bw3 | refine below_set ?_ (IsS76.ge HI0.out) | refine below_set ?_ GE322.out | refine below_set ?_ GE327.out) | exact HB.out)⟩
     (try clear BK322)
     (try clear BK327)
     (try clear HI0)
     (try clear HK)
     (try clear HB)
     generalize ((((w11.setCell ⟨gb327, 0, none⟩ (.int .i64 t323)).setCell ⟨gb327, 1, none⟩ (.int .i64 t324)).setCell ⟨gb327, 2, none⟩ (.int .i64 t325)).setCell ⟨g, 1, none⟩ (.int .i64 t325)) = w19 at n0_ n1_ n2_ n3_ n4_ ⊢
     have BK322 := n0_
     have BK327 := n1_
     have HI0 := n2_
     have HK := n3_
     have HB := n4_
     clear n0_ n1_ n2_ n3_ n4_
     have n0_ := Aside0.mk (blk_drew BK322.out)
     have n1_ := Aside0.mk (blk_drew BK327.out)
     have n2_ := Aside0.mk (IsS76.drew HI0.out)
     have n3_ := Aside0.mk (keep_drew HK.out)
     have n4_ := Aside0.mk (below_drew1 HB.out)
     clear BK322 BK327 HI0 HK HB
     have BK322 := n0_
     have BK327 := n1_
     have HI0 := n2_
     have HK := n3_
     have HB := n4_
     clear n0_ n1_ n2_ n3_ n4_
     refine start_ (n := 12) (S := fun w' => w'.cell? ⟨gb327, 0, none⟩ = some (.int .i64 t323) ∧ w'.cell? ⟨gb327, 1, none⟩ = some (.int .i64 t324) ∧ w'.cell? ⟨gb327, 2, none⟩ = some (.int .i64 t325) ∧ w'.cell? ⟨g, 0, none⟩ = some (.string s0_0) ∧ w'.cell? ⟨g, 1, none⟩ = some (.int .i64 t325)) (ds := []) #[false, false, false, false, false, false, false, false, false, false, false, false] (by kernel_rfl) rfl rfl ⟨(blk_cell BK327.out 0).trans rfl, (blk_cell BK327.out 1).trans rfl, (blk_cell BK327.out 2).trans rfl, (blk_cell HI0.out.1 0).trans rfl, (blk_cell HI0.out.1 1).trans rfl⟩ (fun hHeld => ?_); refine with_tabW scan_reader_next.tab5 scan_reader_next.bits5 (fun HT_ HW_ => ?_)
     generalize w19.drew = w20 at BK322 BK327 HI0 HK HB hHeld ⊢
     refine pure_ (i := 1) (N := some 31) (v := ?_) (a' := ?_) #[false, true, false, false, false, false, false, false, false, false, false, false] rfl rfl (any_of HT_.out (by kernel_rfl)) (fun _ _ _ h => h) (Or.inl ⟨by rfl, ?_⟩) ?_ ?_
     rotate_left
     ·intro w'
      go_simp
      with_reducible rfl
     rotate_left
     ·simp only [Act.put, List.setIfInBounds_toArray, List.set_cons_zero, List.set_cons_succ, i64_w, i32_w]
      rfl
     refine pure_ (i := 2) (N := some 32) (v := ?_) (a' := ?_) #[false, true, true, false, false, false, false, false, false, false, false, false] rfl rfl (any_of HT_.out (by kernel_rfl)) (fun _ _ _ h => h) (Or.inl ⟨by rfl, ?_⟩) ?_ ?_
     rotate_left
     ·intro w'
      go_simp
      with_reducible rfl
     rotate_left
     ·simp only [Act.put, List.setIfInBounds_toArray, List.set_cons_zero, List.set_cons_succ, i64_w, i32_w]
      rfl
     refine pure_ (i := 3) (N := some 33) (v := ?_) (a' := ?_) #[false, true, true, true, false, false, false, false, false, false, false, false] rfl rfl (any_of HT_.out (by kernel_rfl)) (fun _ _ _ h => h) (Or.inl ⟨by rfl, ?_⟩) ?_ ?_
     rotate_left
     ·intro w'
      go_simp
      with_reducible rfl
     rotate_left
     ·simp only [Act.put, List.setIfInBounds_toArray, List.set_cons_zero, List.set_cons_succ, i64_w, i32_w]
      rfl
     refine pure_ (i := 5) (N := some 35) (v := ?_) (a' := ?_) #[false, true, true, true, false, true, false, false, false, false, false, false] rfl rfl (any_of HT_.out (by kernel_rfl)) (fun _ _ _ h => h) (Or.inl ⟨by rfl, ?_⟩) ?_ ?_
     rotate_left
     ·intro w'
      go_simp
      with_reducible rfl
     rotate_left
     ·simp only [Act.put, List.setIfInBounds_toArray, List.set_cons_zero, List.set_cons_succ, i64_w, i32_w]
      rfl
     refine pure_ (i := 7) (N := some 37) (v := ?_) (a' := ?_) #[false, true, true, true, false, true, false, true, false, false, false, false] rfl rfl (any_of HT_.out (by kernel_rfl)) (fun _ _ _ h => h) (Or.inl ⟨by rfl, ?_⟩) ?_ ?_
     rotate_left
     ·intro w'
      go_simp
      with_reducible rfl
     rotate_left
     ·simp only [Act.put, List.setIfInBounds_toArray, List.set_cons_zero, List.set_cons_succ, i64_w, i32_w]
      rfl
     refine take_ (i := 0) (N := some 30) (v := ?_) (a' := ?_) #[true, true, true, true, false, true, false, true, false, false, false, false] rfl rfl (take_ofW HT_.out HW_.out (by kernel_rfl)) (fun _ _ _ h => h) (Or.inl ⟨by rfl, ?_⟩) hHeld ?_ ?_
     rotate_left
     ·rintro w' ⟨s0, s1, s2, s3, s4⟩
      go_simp
      with_reducible rfl
     rotate_left
     ·simp only [Act.put, List.setIfInBounds_toArray, List.set_cons_zero, List.set_cons_succ, i64_w, i32_w]
      rfl
     refine take_ (i := 4) (N := some 34) (v := ?_) (a' := ?_) #[true, true, true, true, true, true, false, true, false, false, false, false] rfl rfl (take_ofW HT_.out HW_.out (by kernel_rfl)) (fun _ _ _ h => h) (Or.inl ⟨by rfl, ?_⟩) hHeld ?_ ?_
     rotate_left
     ·rintro w' ⟨s0, s1, s2, s3, s4⟩
      go_simp
      with_reducible rfl
     rotate_left
     ·simp only [Act.put, List.setIfInBounds_toArray, List.set_cons_zero, List.set_cons_succ, i64_w, i32_w]
      rfl
     refine take_ (i := 6) (N := some 36) (v := ?_) (a' := ?_) #[true, true, true, true, true, true, true, true, false, false, false, false] rfl rfl (take_ofW HT_.out HW_.out (by kernel_rfl)) (fun _ _ _ h => h) (Or.inl ⟨by rfl, ?_⟩) hHeld ?_ ?_
     rotate_left
     ·rintro w' ⟨s0, s1, s2, s3, s4⟩
      go_simp
      with_reducible rfl
     rotate_left
     ·simp only [Act.put, List.setIfInBounds_toArray, List.set_cons_zero, List.set_cons_succ, i64_w, i32_w]
      rfl
     refine take_ (i := 8) (N := some 38) (v := ?_) (a' := ?_) #[true, true, true, true, true, true, true, true, true, false, false, false] rfl rfl (take_ofW HT_.out HW_.out (by kernel_rfl)) (fun _ _ _ h => h) (Or.inl ⟨by rfl, ?_⟩) hHeld ?_ ?_
     rotate_left
     ·rintro w' ⟨s0, s1, s2, s3, s4⟩
      go_simp
      with_reducible rfl
     rotate_left
     ·simp only [Act.put, List.setIfInBounds_toArray, List.set_cons_zero, List.set_cons_succ, i64_w, i32_w]
      rfl
     refine pure_ (i := 9) (N := some 39) (v := ?_) (a' := ?_) #[true, true, true, true, true, true, true, true, true, true, false, false] rfl rfl (any_of HT_.out (by kernel_rfl)) (fun _ _ _ h => h) (Or.inl ⟨by rfl, ?_⟩) ?_ ?_
     rotate_left
     ·intro w'
      go_simp
      with_reducible rfl
     rotate_left
     ·simp only [Act.put, List.setIfInBounds_toArray, List.set_cons_zero, List.set_cons_succ, i64_w, i32_w]
      rfl
     refine one_ (i := 10) (N := none) #[true, true, true, true, true, true, true, true, true, true, true, false] rfl rfl (one_of HT_.out (by kernel_rfl)) (by decide) (fun K hK => ?_)
     have hs21 : w20.cell? ⟨gb322, 0, none⟩ = some (.int .i64 0) := (blk_cell BK322.out 0).trans rfl
     have hfs21 := blk_frozen BK322.out 0
     have hns21_1 := NB327_322.out
     have hms21_1 := NB322_327.out
     have hs22 : w20.cell? ⟨gb322, 1, none⟩ = some (.int .i64 0) := (blk_cell BK322.out 1).trans rfl
     have hfs22 := blk_frozen BK322.out 1
     have hns22_1 := NB327_322.out
     have hms22_1 := NB322_327.out
     have hs23 : w20.cell? ⟨gb322, 2, none⟩ = some (.int .i64 0) := (blk_cell BK322.out 2).trans rfl
     have hfs23 := blk_frozen BK322.out 2
     have hns23_1 := NB327_322.out
     have hms23_1 := NB322_327.out
     refine skip_ (w1 := ?_) (by rfl) rfl ?_ ?_
     rotate_left
     ·go_simp
      rfl
     refine hK.out _ _ ⟨((cell_far (p := ⟨gb322, _, none⟩) NB327_322.out _).trans (((cell_far (p := ⟨gb322, _, none⟩) NB327_322.out _).trans (((cell_far (p := ⟨gb322, _, none⟩) NB327_322.out _).trans (hHeld.1)))))), ((cell_far (p := ⟨gb322, _, none⟩) NB327_322.out _).trans (((cell_far (p := ⟨gb322, _, none⟩) NB327_322.out _).trans (((cell_far (p := ⟨gb322, _, none⟩) NB327_322.out _).trans (hHeld.2.1)))))), ((cell_far (p := ⟨gb322, _, none⟩) NB327_322.out _).trans (((cell_far (p := ⟨gb322, _, none⟩) NB327_322.out _).trans (((cell_far (p := ⟨gb322, _, none⟩) NB327_322.out _).trans (hHeld.2.2.1)))))), ((cell_far (p := ⟨gb322, _, none⟩) (by first | exact NB0_322.out | (rw [add_block]; exact NB0_322.out) | (show (Addr.add _ _).block ≠ _; rw [add_block]; exact NB0_322.out) | (dsimp only; exact NB0_322.out)) _).trans (((cell_far (p := ⟨gb322, _, none⟩) (by first | exact NB0_322.out | (rw [add_block]; exact NB0_322.out) | (show (Addr.add _ _).block ≠ _; rw [add_block]; exact NB0_322.out) | (dsimp only; exact NB0_322.out)) _).trans (((cell_far (p := ⟨gb322, _, none⟩) (by first | exact NB0_322.out | (rw [add_block]; exact NB0_322.out) | (show (Addr.add _ _).block ≠ _; rw [add_block]; exact NB0_322.out) | (dsimp only; exact NB0_322.out)) _).trans (hHeld.2.2.2.1)))))), ((cell_far (p := ⟨gb322, _, none⟩) (by first | exact NB0_322.out | (rw [add_block]; exact NB0_322.out) | (show (Addr.add _ _).block ≠ _; rw [add_block]; exact NB0_322.out) | (dsimp only; exact NB0_322.out)) _).trans (((cell_far (p := ⟨gb322, _, none⟩) (by first | exact NB0_322.out | (rw [add_block]; exact NB0_322.out) | (show (Addr.add _ _).block ≠ _; rw [add_block]; exact NB0_322.out) | (dsimp only; exact NB0_322.out)) _).trans (((cell_far (p := ⟨gb322, _, none⟩) (by first | exact NB0_322.out | (rw [add_block]; exact NB0_322.out) | (show (Addr.add _ _).block ≠ _; rw [add_block]; exact NB0_322.out) | (dsimp only; exact NB0_322.out)) _).trans (hHeld.2.2.2.2))))))⟩ (fun hHeld => ?_)
     clear hK K
     refine pure_ (i := 11) (N := some 3) (v := ?_) (a' := ?_) #[true, true, true, true, true, true, true, true, true, true, true, true] rfl rfl (any_of HT_.out (by kernel_rfl)) (fun _ _ _ h => h) (Or.inl ⟨by rfl, ?_⟩) ?_ ?_
     rotate_left
     ·intro w'
      go_simp
      with_reducible rfl
     rotate_left
     ·simp only [Act.put, List.setIfInBounds_toArray, List.set_cons_zero, List.set_cons_succ, i64_w, i32_w]
      rfl
     refine done_ (done_of HT_.out (by kernel_rfl)) ?_
     try go_wp2
     refine bodyPost_ret (results_ct rfl _ _ gb322 81 #[.int .i64 t323, .int .i64 t324, .int .i64 t325] (0, 0) _ rfl (by (with_reducible repeat (first | apply bd1 | apply bd2 | apply bd3)); refine blk_put (cs := #[.int .i64 t323, .int .i64 t324, .int .i64 0]) ?_ 2 _ rfl; (with_reducible repeat (first | apply bd1 | apply bd2 | apply bd3)); refine blk_put (cs := #[.int .i64 t323, .int .i64 0, .int .i64 0]) ?_ 1 _ rfl; (with_reducible repeat (first | apply bd1 | apply bd2 | apply bd3)); refine blk_put (cs := #[.int .i64 0, .int .i64 0, .int .i64 0]) ?_ 0 _ rfl; (with_reducible repeat (first | apply bd1 | apply bd2 | apply bd3)); exact BK322.out) Tryz.underlying81 rfl (by kernel_rfl)) rfl ?_
     exact ⟨by first | rfl | (simp [*, errW_none, errW_some] <;> rfl), by repeat (first | (with_reducible first | exact HI0.out | apply IsS76.alloc | apply IsS76.drewN | apply IsS76.drew | apply IsS76.set_0 | apply IsS76.set_1 | apply IsS76.far (hne := NB0_322.out) | apply IsS76.far (hne := NB0_327.out)) | exact HI0.out), by repeat (first | (with_reducible first | exact HB.out | apply bw1 | apply bw2 | apply bw3 | refine below_set ?_ (IsS76.ge HI0.out) | refine below_set ?_ GE322.out | refine below_set ?_ GE327.out) | exact HB.out), by repeat (first | (with_reducible first | exact HK.out | apply bk1 | apply bk2 | apply bk3 | apply bk4 | refine keep_far ?_ GW322.out _ | refine keep_far ?_ GW327.out _) | exact HK.out)⟩
    ·rw [if_neg c6] at H
     exact absurd H (by simp)
   ·rw [if_neg c5] at H
    exact absurd H (by simp)
  ·rw [if_neg c4] at H
   exact absurd H (by simp)
 ·rw [if_neg c3] at H
  have c3b0 : (t326 == 0) = false := beq_eq_false_iff_ne.mpr c3
  have c3b1 : (t326 != 0) = true := bne_iff_ne.mpr c3
  simp only [Option.some.injEq, Prod.mk.injEq] at H
  obtain ⟨rfl, rfl, rfl, rfl, rfl, rfl, rfl, rfl, rfl⟩ := H
  go_enter Tryz.func69, Tryz.ntmps69
  try go_wp2_with (first | ((with_reducible refine gate_dst (N := 2) rfl ?_); refine box_event ?hg (N := 2) ?hd (cs := #[.int .i64 0, .int .i64 0, .int .i64 0]) (t := 81) ?hr ?_; (case hd => rfl); (case hg => rfl); (case hr => first | (go_simp; done) | (go_simp; rfl)); intro gb322 hg w24 hbox hb; have n0_ := Aside0.mk (IsS76.below (by repeat (first | (with_reducible first | exact HI0.out | apply IsS76.alloc | apply IsS76.drewN | apply IsS76.drew | apply IsS76.set_0 | apply IsS76.set_1) | exact HI0.out)) hb); have n1_ := Aside0.mk (KeepBut.trans (by repeat (first | (with_reducible first | exact HK.out | apply bk1 | apply bk2 | apply bk3 | apply bk4) | exact HK.out)) (KeepBut.of_below hb g none) (.inl rfl)); have n2_ := Aside0.mk (below_step (by repeat (first | (with_reducible first | exact HB.out | apply bw1 | apply bw2 | apply bw3 | refine below_set ?_ (IsS76.ge HI0.out)) | exact HB.out)) hb); have n3_ := Aside0.mk (hbox); have n4_ := Aside0.mk ((by rw [hg]; exact (keep_size (w := w) (g := g) (row := none) (by repeat (first | (with_reducible first | exact HK.out | apply bk1 | apply bk2 | apply bk3 | apply bk4) | exact HK.out))) : w.heap.size ≤ gb322)); have n5_ := Aside0.mk ((Nat.le_trans HW0.out n4_.out : w0.heap.size ≤ gb322)); have n6_ := Aside0.mk ((by rw [hg]; exact Nat.ne_of_lt (IsS76.lt (show IsS76 w0 _ g s0_0 s0_1 from by repeat (first | (with_reducible first | exact HI0.out | apply IsS76.alloc | apply IsS76.drewN | apply IsS76.drew | apply IsS76.set_0 | apply IsS76.set_1) | exact HI0.out))) : g ≠ gb322)); have n7_ := Aside0.mk (Ne.symm n6_.out); clear HI0 HK HB; have HI0 := n0_; have HK := n1_; have HB := n2_; have BK322 := n3_; have GW322 := n4_; have GE322 := n5_; have NB0_322 := n6_; have NB322_0 := n7_; clear n0_ n1_ n2_ n3_ n4_ n5_ n6_ n7_; clear hb hbox hg))
  have n0_ := Aside0.mk (blk_drew BK322.out)
  have n1_ := Aside0.mk (IsS76.drew HI0.out)
  have n2_ := Aside0.mk (keep_drew HK.out)
  have n3_ := Aside0.mk (below_drew1 HB.out)
  clear BK322 HI0 HK HB
  have BK322 := n0_
  have HI0 := n1_
  have HK := n2_
  have HB := n3_
  clear n0_ n1_ n2_ n3_
  refine start_ (n := 15) (S := fun w' => w'.cell? ⟨g, 0, none⟩ = some (.string s0_0) ∧ w'.cell? ⟨g, 1, none⟩ = some (.int .i64 s0_1)) (ds := []) #[false, false, false, false, false, false, false, false, false, false, false, false, false, false, false] (by kernel_rfl) rfl rfl ⟨(blk_cell HI0.out.1 0).trans rfl, (blk_cell HI0.out.1 1).trans rfl⟩ (fun hHeld => ?_); refine with_tabW scan_reader_next.tab1 scan_reader_next.bits1 (fun HT_ HW_ => ?_)
  generalize w24.drew = w25 at BK322 HI0 HK HB hHeld ⊢
  refine pure_ (i := 0) (N := some 7) (v := ?_) (a' := ?_) #[true, false, false, false, false, false, false, false, false, false, false, false, false, false, false] rfl rfl (any_of HT_.out (by kernel_rfl)) (fun _ _ _ h => h) (Or.inl ⟨by rfl, ?_⟩) ?_ ?_
  rotate_left
  ·intro w'
   go_simp
   with_reducible rfl
  rotate_left
  ·simp only [Act.put, List.setIfInBounds_toArray, List.set_cons_zero, List.set_cons_succ, i64_w, i32_w]
   rfl
  refine pure_ (i := 1) (N := some 8) (v := ?_) (a' := ?_) #[true, true, false, false, false, false, false, false, false, false, false, false, false, false, false] rfl rfl (any_of HT_.out (by kernel_rfl)) (fun _ _ _ h => h) (Or.inl ⟨by rfl, ?_⟩) ?_ ?_
  rotate_left
  ·intro w'
   go_simp
   with_reducible rfl
  rotate_left
  ·simp only [Act.put, List.setIfInBounds_toArray, List.set_cons_zero, List.set_cons_succ, i64_w, i32_w]
   rfl
  refine pure_ (i := 2) (N := some 9) (v := ?_) (a' := ?_) #[true, true, true, false, false, false, false, false, false, false, false, false, false, false, false] rfl rfl (any_of HT_.out (by kernel_rfl)) (fun _ _ _ h => h) (Or.inl ⟨by rfl, ?_⟩) ?_ ?_
  rotate_left
  ·intro w'
   go_simp
   with_reducible rfl
  rotate_left
  ·simp only [Act.put, List.setIfInBounds_toArray, List.set_cons_zero, List.set_cons_succ, i64_w, i32_w]
   rfl
  refine pure_ (i := 4) (N := some 11) (v := ?_) (a' := ?_) #[true, true, true, false, true, false, false, false, false, false, false, false, false, false, false] rfl rfl (any_of HT_.out (by kernel_rfl)) (fun _ _ _ h => h) (Or.inl ⟨by rfl, ?_⟩) ?_ ?_
  rotate_left
  ·intro w'
   go_simp
   with_reducible rfl
  rotate_left
  ·simp only [Act.put, List.setIfInBounds_toArray, List.set_cons_zero, List.set_cons_succ, i64_w, i32_w]
   rfl
  refine pure_ (i := 5) (N := some 12) (v := ?_) (a' := ?_) #[true, true, true, false, true, true, false, false, false, false, false, false, false, false, false] rfl rfl (any_of HT_.out (by kernel_rfl)) (fun _ _ _ h => h) (Or.inl ⟨by rfl, ?_⟩) ?_ ?_
  rotate_left
  ·intro w'
   go_simp
   with_reducible rfl
  rotate_left
  ·simp only [Act.put, List.setIfInBounds_toArray, List.set_cons_zero, List.set_cons_succ, i64_w, i32_w]
   rfl
  refine pure_ (i := 6) (N := some 13) (v := ?_) (a' := ?_) #[true, true, true, false, true, true, true, false, false, false, false, false, false, false, false] rfl rfl (any_of HT_.out (by kernel_rfl)) (fun _ _ _ h => h) (Or.inl ⟨by rfl, ?_⟩) ?_ ?_
  rotate_left
  ·intro w'
   go_simp
   with_reducible rfl
  rotate_left
  ·simp only [Act.put, List.setIfInBounds_toArray, List.set_cons_zero, List.set_cons_succ, i64_w, i32_w]
   rfl
  refine take_ (i := 3) (N := some 10) (v := ?_) (a' := ?_) #[true, true, true, true, true, true, true, false, false, false, false, false, false, false, false] rfl rfl (take_ofW HT_.out HW_.out (by kernel_rfl)) (fun _ _ _ h => h) (Or.inl ⟨by rfl, ?_⟩) hHeld ?_ ?_
  rotate_left
  ·rintro w' ⟨s0, s1⟩
   go_simp
   with_reducible rfl
  rotate_left
  ·simp only [Act.put, List.setIfInBounds_toArray, List.set_cons_zero, List.set_cons_succ, i64_w, i32_w]
   rfl
  refine take_ (i := 7) (N := some 14) (v := ?_) (a' := ?_) #[true, true, true, true, true, true, true, true, false, false, false, false, false, false, false] rfl rfl (take_ofW HT_.out HW_.out (by kernel_rfl)) (fun _ _ _ h => h) (Or.inl ⟨by rfl, ?_⟩) hHeld ?_ ?_
  rotate_left
  ·rintro w' ⟨s0, s1⟩
   go_simp
   with_reducible rfl
  rotate_left
  ·simp only [Act.put, List.setIfInBounds_toArray, List.set_cons_zero, List.set_cons_succ, i64_w, i32_w]
   rfl
  refine join_ (σ := Nat) 2 #[true, true, true, true, true, true, true, true, true, true, true, true, true, false, false] (fun s_ => [(15, .tuple #[.agg #[.int .i64 t323, .int .i64 t324, .int .i64 t325], .int .i64 t326]), (4, .pointer (some ⟨s_, 0, none⟩)), (6, .tuple #[.agg #[.int .i64 t323, .int .i64 t324, .int .i64 t325], .int .i64 t326]), (16, .agg #[.int .i64 t323, .int .i64 t324, .int .i64 t325]), (17, .int .i64 t326)]) (fun s_ w' => (w'.cell? ⟨g, 0, none⟩ = some (.string s0_0) ∧ w'.cell? ⟨g, 1, none⟩ = some (.int .i64 s0_1)) ∧ (w'.heap[gb322]? = some (.cells #[.int .i64 0, .int .i64 0, .int .i64 0] 81 (0, 0))) ∧ (w'.heap[s_]? = some (.cells #[.int .i64 0, .int .i64 0, .int .i64 0] 81 (0, 0))) ∧ (w.heap.size ≤ s_) ∧ (w0.heap.size ≤ s_) ∧ (g ≠ s_) ∧ (s_ ≠ g) ∧ (gb322 ≠ s_) ∧ (s_ ≠ gb322) ∧ (IsS76 w0 w' g s0_0 s0_1) ∧ (KeepBut w w' g none) ∧ (Below w0.heap.size w0 w')) ?_ ?_
  rotate_left
  ·intro hCont
   refine two_ (i := 8) (j := 12) (Ni := some 15) (Nj := some 4) #[true, true, true, true, true, true, true, true, true, false, false, false, false, false, false] #[true, true, true, true, true, true, true, true, false, false, false, false, true, false, false] rfl rfl rfl rfl (two_of HT_.out (by kernel_rfl)) (by decide) (by decide) (fun K hK => ?_) (fun K hK => ?_)
   ·skip
    refine goes_ Tryz.func53 (by kernel_rfl) rfl #[.string s0_0, .int .i64 s0_1] (by rfl) rfl rfl (am.trans (by rfl)) ?_
    with_reducible refine (lex_Next.calls k s0_0 s0_1 t323 t324 t325 t326 _ A2.out (by first | exact HI.out | exact Inv.below HI.out (by repeat (first | (with_reducible first | exact HB.out | apply bw1 | apply bw2 | apply bw3 | refine below_set ?_ (IsS76.ge HI0.out) | refine below_set ?_ GE322.out) | exact HB.out)) | exact Inv.drawn HI.out (by repeat (first | exact Drawn0.refl _ | apply Drawn0.step)))).mono ?_
    rintro e w26 ⟨rfl, hb⟩
    refine ⟨_, rfl, ?_⟩
    have n0_ := Aside0.mk (IsS76.below (by repeat (first | (with_reducible first | exact HI0.out | apply IsS76.alloc | apply IsS76.drewN | apply IsS76.drew | apply IsS76.set_0 | apply IsS76.set_1 | apply IsS76.far (hne := NB0_322.out)) | exact HI0.out)) hb)
    have n1_ := Aside0.mk (blk_below (g := gb322) (o := .cells #[.int .i64 0, .int .i64 0, .int .i64 0] 81 (0, 0)) (by (with_reducible repeat (first | apply bd1 | apply bd2 | apply bd3)); exact BK322.out) hb)
    have n2_ := Aside0.mk (KeepBut.trans (by repeat (first | (with_reducible first | exact HK.out | apply bk1 | apply bk2 | apply bk3 | apply bk4 | refine keep_far ?_ GW322.out _) | exact HK.out)) (KeepBut.of_below hb g none) (.inl rfl))
    have n3_ := Aside0.mk (below_step (by repeat (first | (with_reducible first | exact HB.out | apply bw1 | apply bw2 | apply bw3 | refine below_set ?_ (IsS76.ge HI0.out) | refine below_set ?_ GE322.out) | exact HB.out)) hb)
    clear HI0 BK322 HK HB
    have HI0 := n0_
    have BK322 := n1_
    have HK := n2_
    have HB := n3_
    clear n0_ n1_ n2_ n3_
    (try clear hb)
    (try clear hb2)
    (try clear hk)
    (try clear hi)
    refine hK.out _ _ ⟨(blk_cell HI0.out.1 0).trans rfl, (blk_cell HI0.out.1 1).trans rfl⟩ (fun hHeld => ?_)
    clear hK K
    refine norm_ (a' := ?_) ?_ ?_
    rotate_left
    ·show Act.put _ (some 15) _ = _
     simp only [Act.put, List.setIfInBounds_toArray, List.set_cons_zero, List.set_cons_succ, i64_w, i32_w]
     rfl
    refine pure_ (i := 9) (N := some 6) (v := ?_) (a' := ?_) #[true, true, true, true, true, true, true, true, true, true, false, false, false, false, false] rfl rfl (any_of HT_.out (by kernel_rfl)) (fun _ _ _ h => h) (Or.inl ⟨by rfl, ?_⟩) ?_ ?_
    rotate_left
    ·intro w'
     go_simp
     with_reducible rfl
    rotate_left
    ·simp only [Act.put, List.setIfInBounds_toArray, List.set_cons_zero, List.set_cons_succ, i64_w, i32_w]
     rfl
    refine pure_ (i := 10) (N := some 16) (v := ?_) (a' := ?_) #[true, true, true, true, true, true, true, true, true, true, true, false, false, false, false] rfl rfl (any_of HT_.out (by kernel_rfl)) (fun _ _ _ h => h) (Or.inl ⟨by rfl, ?_⟩) ?_ ?_
    rotate_left
    ·intro w'
     go_simp
     with_reducible rfl
    rotate_left
    ·simp only [Act.put, List.setIfInBounds_toArray, List.set_cons_zero, List.set_cons_succ, i64_w, i32_w]
     rfl
    refine pure_ (i := 11) (N := some 17) (v := ?_) (a' := ?_) #[true, true, true, true, true, true, true, true, true, true, true, true, false, false, false] rfl rfl (any_of HT_.out (by kernel_rfl)) (fun _ _ _ h => h) (Or.inl ⟨by rfl, ?_⟩) ?_ ?_
    rotate_left
    ·intro w'
     go_simp
     with_reducible rfl
    rotate_left
    ·simp only [Act.put, List.setIfInBounds_toArray, List.set_cons_zero, List.set_cons_succ, i64_w, i32_w]
     rfl
    refine one_ (i := 12) (N := some 4) #[true, true, true, true, true, true, true, true, true, true, true, true, true, false, false] rfl rfl (one_of HT_.out (by kernel_rfl)) (by decide) (fun K hK => ?_)
    refine box_step ?hg (N := 4) ?hd (cs := #[.int .i64 0, .int .i64 0, .int .i64 0]) (t := 81) ?hr ?_; (case hd => rfl); (case hg => rfl); (case hr => first | (go_simp; done) | (go_simp; rfl))
    intro gb327 hg w27 hbox hb
    have n0_ := Aside0.mk (IsS76.below (by repeat (first | (with_reducible first | exact HI0.out | apply IsS76.alloc | apply IsS76.drewN | apply IsS76.drew | apply IsS76.set_0 | apply IsS76.set_1 | apply IsS76.far (hne := NB0_322.out)) | exact HI0.out)) hb)
    have n1_ := Aside0.mk (blk_below (g := gb322) (o := .cells #[.int .i64 0, .int .i64 0, .int .i64 0] 81 (0, 0)) (by (with_reducible repeat (first | apply bd1 | apply bd2 | apply bd3)); exact BK322.out) hb)
    have n2_ := Aside0.mk (KeepBut.trans (by repeat (first | (with_reducible first | exact HK.out | apply bk1 | apply bk2 | apply bk3 | apply bk4 | refine keep_far ?_ GW322.out _) | exact HK.out)) (KeepBut.of_below hb g none) (.inl rfl))
    have n3_ := Aside0.mk (below_step (by repeat (first | (with_reducible first | exact HB.out | apply bw1 | apply bw2 | apply bw3 | refine below_set ?_ (IsS76.ge HI0.out) | refine below_set ?_ GE322.out) | exact HB.out)) hb)
    have n4_ := Aside0.mk (hbox)
    have n5_ := Aside0.mk ((by rw [hg]; exact (keep_size (w := w) (g := g) (row := none) (by repeat (first | (with_reducible first | exact HK.out | apply bk1 | apply bk2 | apply bk3 | apply bk4 | refine keep_far ?_ GW322.out _) | exact HK.out))) : w.heap.size ≤ gb327))
    have n6_ := Aside0.mk ((Nat.le_trans HW0.out n5_.out : w0.heap.size ≤ gb327))
    have n7_ := Aside0.mk ((by rw [hg]; exact Nat.ne_of_lt (blk_lt (g := gb322) (o := .cells #[.int .i64 0, .int .i64 0, .int .i64 0] 81 (0, 0)) (by (with_reducible repeat (first | apply bd1 | apply bd2 | apply bd3)); exact BK322.out)) : gb322 ≠ gb327))
    have n8_ := Aside0.mk (Ne.symm n7_.out)
    have n9_ := Aside0.mk ((by rw [hg]; exact Nat.ne_of_lt (IsS76.lt (show IsS76 w0 _ g s0_0 s0_1 from by repeat (first | (with_reducible first | exact HI0.out | apply IsS76.alloc | apply IsS76.drewN | apply IsS76.drew | apply IsS76.set_0 | apply IsS76.set_1 | apply IsS76.far (hne := NB0_322.out)) | exact HI0.out))) : g ≠ gb327))
    have n10_ := Aside0.mk (Ne.symm n9_.out)
    clear HI0 BK322 HK HB
    have HI0 := n0_
    have BK322 := n1_
    have HK := n2_
    have HB := n3_
    have BK327 := n4_
    have GW327 := n5_
    have GE327 := n6_
    have NB322_327 := n7_
    have NB327_322 := n8_
    have NB0_327 := n9_
    have NB327_0 := n10_
    clear n0_ n1_ n2_ n3_ n4_ n5_ n6_ n7_ n8_ n9_ n10_ hb hbox hg
    refine hK.out _ _ ⟨(blk_cell HI0.out.1 0).trans rfl, (blk_cell HI0.out.1 1).trans rfl⟩ (fun hHeld => ?_)
    clear hK K
    refine norm_ (a' := ?_) ?_ ?_
    rotate_left
    ·show Act.put _ (some 4) _ = _
     simp only [Act.put, List.setIfInBounds_toArray, List.set_cons_zero, List.set_cons_succ, i64_w, i32_w]
     rfl
    exact norm_ (by simp only [putAll, Act.put, List.setIfInBounds_toArray, List.set_cons_zero, List.set_cons_succ]) (hCont (gb327) _ ⟨hHeld, (by (with_reducible repeat (first | apply bd1 | apply bd2 | apply bd3)); exact BK322.out), (by (with_reducible repeat (first | apply bd1 | apply bd2 | apply bd3)); exact BK327.out), GW327.out, GE327.out, NB0_327.out, NB327_0.out, NB322_327.out, NB327_322.out, (by repeat (first | (with_reducible first | exact HI0.out | apply IsS76.alloc | apply IsS76.drewN | apply IsS76.drew | apply IsS76.set_0 | apply IsS76.set_1 | apply IsS76.far (hne := NB0_322.out) | apply IsS76.far (hne := NB0_327.out)) | exact HI0.out)), (by repeat (first | (with_reducible first | exact HK.out | apply bk1 | apply bk2 | apply bk3 | apply bk4 | refine keep_far ?_ GW322.out _ | refine keep_far ?_ GW327.out _) | exact HK.out)), (by repeat (first | (with_reducible first | exact HB.out | apply bw1 | apply bw2 | apply bw3 | refine below_set ?_ (IsS76.ge HI0.out) | refine below_set ?_ GE322.out | refine below_set ?_ GE327.out) | exact HB.out))⟩)
   ·skip
    refine box_step ?hg (N := 4) ?hd (cs := #[.int .i64 0, .int .i64 0, .int .i64 0]) (t := 81) ?hr ?_; (case hd => rfl); (case hg => rfl); (case hr => first | (go_simp; done) | (go_simp; rfl))
    intro gb327 hg w26 hbox hb
    have n0_ := Aside0.mk (IsS76.below (by repeat (first | (with_reducible first | exact HI0.out | apply IsS76.alloc | apply IsS76.drewN | apply IsS76.drew | apply IsS76.set_0 | apply IsS76.set_1 | apply IsS76.far (hne := NB0_322.out)) | exact HI0.out)) hb)
    have n1_ := Aside0.mk (blk_below (g := gb322) (o := .cells #[.int .i64 0, .int .i64 0, .int .i64 0] 81 (0, 0)) (by (with_reducible repeat (first | apply bd1 | apply bd2 | apply bd3)); exact BK322.out) hb)
    have n2_ := Aside0.mk (KeepBut.trans (by repeat (first | (with_reducible first | exact HK.out | apply bk1 | apply bk2 | apply bk3 | apply bk4 | refine keep_far ?_ GW322.out _) | exact HK.out)) (KeepBut.of_below hb g none) (.inl rfl))
    have n3_ := Aside0.mk (below_step (by repeat (first | (with_reducible first | exact HB.out | apply bw1 | apply bw2 | apply bw3 | refine below_set ?_ (IsS76.ge HI0.out) | refine below_set ?_ GE322.out) | exact HB.out)) hb)
    have n4_ := Aside0.mk (hbox)
    have n5_ := Aside0.mk ((by rw [hg]; exact (keep_size (w := w) (g := g) (row := none) (by repeat (first | (with_reducible first | exact HK.out | apply bk1 | apply bk2 | apply bk3 | apply bk4 | refine keep_far ?_ GW322.out _) | exact HK.out))) : w.heap.size ≤ gb327))
    have n6_ := Aside0.mk ((Nat.le_trans HW0.out n5_.out : w0.heap.size ≤ gb327))
    have n7_ := Aside0.mk ((by rw [hg]; exact Nat.ne_of_lt (blk_lt (g := gb322) (o := .cells #[.int .i64 0, .int .i64 0, .int .i64 0] 81 (0, 0)) (by (with_reducible repeat (first | apply bd1 | apply bd2 | apply bd3)); exact BK322.out)) : gb322 ≠ gb327))
    have n8_ := Aside0.mk (Ne.symm n7_.out)
    have n9_ := Aside0.mk ((by rw [hg]; exact Nat.ne_of_lt (IsS76.lt (show IsS76 w0 _ g s0_0 s0_1 from by repeat (first | (with_reducible first | exact HI0.out | apply IsS76.alloc | apply IsS76.drewN | apply IsS76.drew | apply IsS76.set_0 | apply IsS76.set_1 | apply IsS76.far (hne := NB0_322.out)) | exact HI0.out))) : g ≠ gb327))
    have n10_ := Aside0.mk (Ne.symm n9_.out)
    clear HI0 BK322 HK HB
    have HI0 := n0_
    have BK322 := n1_
    have HK := n2_
    have HB := n3_
    have BK327 := n4_
    have GW327 := n5_
    have GE327 := n6_
    have NB322_327 := n7_
    have NB327_322 := n8_
    have NB0_327 := n9_
    have NB327_0 := n10_
    clear n0_ n1_ n2_ n3_ n4_ n5_ n6_ n7_ n8_ n9_ n10_ hb hbox hg
    refine hK.out _ _ ⟨(blk_cell HI0.out.1 0).trans rfl, (blk_cell HI0.out.1 1).trans rfl⟩ (fun hHeld => ?_)
    clear hK K
    refine norm_ (a' := ?_) ?_ ?_
    rotate_left
    ·show Act.put _ (some 4) _ = _
     simp only [Act.put, List.setIfInBounds_toArray, List.set_cons_zero, List.set_cons_succ, i64_w, i32_w]
     rfl
    refine one_ (i := 8) (N := some 15) #[true, true, true, true, true, true, true, true, true, false, false, false, true, false, false] rfl rfl (one_of HT_.out (by kernel_rfl)) (by decide) (fun K hK => ?_)
    refine goes_ Tryz.func53 (by kernel_rfl) rfl #[.string s0_0, .int .i64 s0_1] (by rfl) rfl rfl (am.trans (by rfl)) ?_
    with_reducible refine (lex_Next.calls k s0_0 s0_1 t323 t324 t325 t326 _ A2.out (by first | exact HI.out | exact Inv.below HI.out (by repeat (first | (with_reducible first | exact HB.out | apply bw1 | apply bw2 | apply bw3 | refine below_set ?_ (IsS76.ge HI0.out) | refine below_set ?_ GE322.out | refine below_set ?_ GE327.out) | exact HB.out)) | exact Inv.drawn HI.out (by repeat (first | exact Drawn0.refl _ | apply Drawn0.step)))).mono ?_
    rintro e w27 ⟨rfl, hb⟩
    refine ⟨_, rfl, ?_⟩
    have n0_ := Aside0.mk (IsS76.below (by repeat (first | (with_reducible first | exact HI0.out | apply IsS76.alloc | apply IsS76.drewN | apply IsS76.drew | apply IsS76.set_0 | apply IsS76.set_1 | apply IsS76.far (hne := NB0_322.out) | apply IsS76.far (hne := NB0_327.out)) | exact HI0.out)) hb)
    have n1_ := Aside0.mk (blk_below (g := gb322) (o := .cells #[.int .i64 0, .int .i64 0, .int .i64 0] 81 (0, 0)) (by (with_reducible repeat (first | apply bd1 | apply bd2 | apply bd3)); exact BK322.out) hb)
    have n2_ := Aside0.mk (blk_below (g := gb327) (o := .cells #[.int .i64 0, .int .i64 0, .int .i64 0] 81 (0, 0)) (by (with_reducible repeat (first | apply bd1 | apply bd2 | apply bd3)); exact BK327.out) hb)
    have n3_ := Aside0.mk (KeepBut.trans (by repeat (first | (with_reducible first | exact HK.out | apply bk1 | apply bk2 | apply bk3 | apply bk4 | refine keep_far ?_ GW322.out _ | refine keep_far ?_ GW327.out _) | exact HK.out)) (KeepBut.of_below hb g none) (.inl rfl))
    have n4_ := Aside0.mk (below_step (by repeat (first | (with_reducible first | exact HB.out | apply bw1 | apply bw2 | apply bw3 | refine below_set ?_ (IsS76.ge HI0.out) | refine below_set ?_ GE322.out | refine below_set ?_ GE327.out) | exact HB.out)) hb)
    clear HI0 BK322 BK327 HK HB
    have HI0 := n0_
    have BK322 := n1_
    have BK327 := n2_
    have HK := n3_
    have HB := n4_
    clear n0_ n1_ n2_ n3_ n4_
    (try clear hb)
    (try clear hb2)
    (try clear hk)
    (try clear hi)
    refine hK.out _ _ ⟨(blk_cell HI0.out.1 0).trans rfl, (blk_cell HI0.out.1 1).trans rfl⟩ (fun hHeld => ?_)
    clear hK K
    refine norm_ (a' := ?_) ?_ ?_
    rotate_left
    ·show Act.put _ (some 15) _ = _
     simp only [Act.put, List.setIfInBounds_toArray, List.set_cons_zero, List.set_cons_succ, i64_w, i32_w]
     rfl
    refine pure_ (i := 9) (N := some 6) (v := ?_) (a' := ?_) #[true, true, true, true, true, true, true, true, true, true, false, false, true, false, false] rfl rfl (any_of HT_.out (by kernel_rfl)) (fun _ _ _ h => h) (Or.inl ⟨by rfl, ?_⟩) ?_ ?_
    rotate_left
    ·intro w'
     go_simp
     with_reducible rfl
    rotate_left
    ·simp only [Act.put, List.setIfInBounds_toArray, List.set_cons_zero, List.set_cons_succ, i64_w, i32_w]
     rfl
    refine pure_ (i := 10) (N := some 16) (v := ?_) (a' := ?_) #[true, true, true, true, true, true, true, true, true, true, true, false, true, false, false] rfl rfl (any_of HT_.out (by kernel_rfl)) (fun _ _ _ h => h) (Or.inl ⟨by rfl, ?_⟩) ?_ ?_
    rotate_left
    ·intro w'
     go_simp
     with_reducible rfl
    rotate_left
    ·simp only [Act.put, List.setIfInBounds_toArray, List.set_cons_zero, List.set_cons_succ, i64_w, i32_w]
     rfl
    refine pure_ (i := 11) (N := some 17) (v := ?_) (a' := ?_) #[true, true, true, true, true, true, true, true, true, true, true, true, true, false, false] rfl rfl (any_of HT_.out (by kernel_rfl)) (fun _ _ _ h => h) (Or.inl ⟨by rfl, ?_⟩) ?_ ?_
    rotate_left
    ·intro w'
     go_simp
     with_reducible rfl
    rotate_left
    ·simp only [Act.put, List.setIfInBounds_toArray, List.set_cons_zero, List.set_cons_succ, i64_w, i32_w]
     rfl
    exact norm_ (by simp only [putAll, Act.put, List.setIfInBounds_toArray, List.set_cons_zero, List.set_cons_succ]) (hCont (gb327) _ ⟨hHeld, (by (with_reducible repeat (first | apply bd1 | apply bd2 | apply bd3)); exact BK322.out), (by (with_reducible repeat (first | apply bd1 | apply bd2 | apply bd3)); exact BK327.out), GW327.out, GE327.out, NB0_327.out, NB327_0.out, NB322_327.out, NB327_322.out, (by repeat (first | (with_reducible first | exact HI0.out | apply IsS76.alloc | apply IsS76.drewN | apply IsS76.drew | apply IsS76.set_0 | apply IsS76.set_1 | apply IsS76.far (hne := NB0_322.out) | apply IsS76.far (hne := NB0_327.out)) | exact HI0.out)), (by repeat (first | (with_reducible first | exact HK.out | apply bk1 | apply bk2 | apply bk3 | apply bk4 | refine keep_far ?_ GW322.out _ | refine keep_far ?_ GW327.out _) | exact HK.out)), (by repeat (first | (with_reducible first | exact HB.out | apply bw1 | apply bw2 | apply bw3 | refine below_set ?_ (IsS76.ge HI0.out) | refine below_set ?_ GE322.out | refine below_set ?_ GE327.out) | exact HB.out))⟩)
  rintro gb327 w28 ⟨hS_, h0_, h1_, h2_, h3_, h4_, h5_, h6_, h7_, h8_, h9_, h10_⟩
  have n0_ : Aside0 (w28.heap[gb322]? = some (.cells #[.int .i64 0, .int .i64 0, .int .i64 0] 81 (0, 0))) := ⟨h0_⟩
  have n1_ : Aside0 (w28.heap[gb327]? = some (.cells #[.int .i64 0, .int .i64 0, .int .i64 0] 81 (0, 0))) := ⟨h1_⟩
  have n2_ : Aside0 (w.heap.size ≤ gb327) := ⟨h2_⟩
  have n3_ : Aside0 (w0.heap.size ≤ gb327) := ⟨h3_⟩
  have n4_ : Aside0 (g ≠ gb327) := ⟨h4_⟩
  have n5_ : Aside0 (gb327 ≠ g) := ⟨h5_⟩
  have n6_ : Aside0 (gb322 ≠ gb327) := ⟨h6_⟩
  have n7_ : Aside0 (gb327 ≠ gb322) := ⟨h7_⟩
  have n8_ : Aside0 (IsS76 w0 w28 g s0_0 s0_1) := ⟨h8_⟩
  have n9_ : Aside0 (KeepBut w w28 g none) := ⟨h9_⟩
  have n10_ : Aside0 (Below w0.heap.size w0 w28) := ⟨h10_⟩
  clear BK322 HI0 HK HB h0_ h1_ h2_ h3_ h4_ h5_ h6_ h7_ h8_ h9_ h10_
  have BK322 := n0_
  have BK327 := n1_
  have GW327 := n2_
  have GE327 := n3_
  have NB0_327 := n4_
  have NB327_0 := n5_
  have NB322_327 := n6_
  have NB327_322 := n7_
  have HI0 := n8_
  have HK := n9_
  have HB := n10_
  clear n0_ n1_ n2_ n3_ n4_ n5_ n6_ n7_ n8_ n9_ n10_
  have hHeld : w28.cell? ⟨g, 0, none⟩ = some (.string s0_0) ∧ w28.cell? ⟨g, 1, none⟩ = some (.int .i64 s0_1) := hS_
  refine norm_ (a' := ?_) ?_ ?_
  rotate_left
  ·simp only [putAll, Act.put, List.setIfInBounds_toArray, List.set_cons_zero, List.set_cons_succ]
   rfl
  refine one_ (i := 13) (N := none) #[true, true, true, true, true, true, true, true, true, true, true, true, true, true, false] rfl rfl (one_of HT_.out (by kernel_rfl)) (by decide) (fun K hK => ?_)
  have hs29 : w28.cell? ⟨gb327, 0, none⟩ = some (.int .i64 0) := (blk_cell BK327.out 0).trans rfl
  have hfs29 := blk_frozen BK327.out 0
  have hns29_0 := NB322_327.out
  have hms29_0 := NB327_322.out
  have hs30 : w28.cell? ⟨gb327, 1, none⟩ = some (.int .i64 0) := (blk_cell BK327.out 1).trans rfl
  have hfs30 := blk_frozen BK327.out 1
  have hns30_0 := NB322_327.out
  have hms30_0 := NB327_322.out
  have hs31 : w28.cell? ⟨gb327, 2, none⟩ = some (.int .i64 0) := (blk_cell BK327.out 2).trans rfl
  have hfs31 := blk_frozen BK327.out 2
  have hns31_0 := NB322_327.out
  have hms31_0 := NB327_322.out
  refine skip_ (w1 := ?_) (by rfl) rfl ?_ ?_
  rotate_left
  ·go_simp
   rfl
  refine hK.out _ _ ⟨((cell_far (p := ⟨gb327, _, none⟩) (by first | exact NB0_327.out | (rw [add_block]; exact NB0_327.out) | (show (Addr.add _ _).block ≠ _; rw [add_block]; exact NB0_327.out) | (dsimp only; exact NB0_327.out)) _).trans (((cell_far (p := ⟨gb327, _, none⟩) (by first | exact NB0_327.out | (rw [add_block]; exact NB0_327.out) | (show (Addr.add _ _).block ≠ _; rw [add_block]; exact NB0_327.out) | (dsimp only; exact NB0_327.out)) _).trans (((cell_far (p := ⟨gb327, _, none⟩) (by first | exact NB0_327.out | (rw [add_block]; exact NB0_327.out) | (show (Addr.add _ _).block ≠ _; rw [add_block]; exact NB0_327.out) | (dsimp only; exact NB0_327.out)) _).trans (hHeld.1)))))), ((cell_far (p := ⟨gb327, _, none⟩) (by first | exact NB0_327.out | (rw [add_block]; exact NB0_327.out) | (show (Addr.add _ _).block ≠ _; rw [add_block]; exact NB0_327.out) | (dsimp only; exact NB0_327.out)) _).trans (((cell_far (p := ⟨gb327, _, none⟩) (by first | exact NB0_327.out | (rw [add_block]; exact NB0_327.out) | (show (Addr.add _ _).block ≠ _; rw [add_block]; exact NB0_327.out) | (dsimp only; exact NB0_327.out)) _).trans (((cell_far (p := ⟨gb327, _, none⟩) (by first | exact NB0_327.out | (rw [add_block]; exact NB0_327.out) | (show (Addr.add _ _).block ≠ _; rw [add_block]; exact NB0_327.out) | (dsimp only; exact NB0_327.out)) _).trans (hHeld.2))))))⟩ (fun hHeld => ?_)
  clear hK K
  refine pure_ (i := 14) (N := some 5) (v := ?_) (a' := ?_) #[true, true, true, true, true, true, true, true, true, true, true, true, true, true, true] rfl rfl (any_of HT_.out (by kernel_rfl)) (fun _ _ _ h => h) (Or.inl ⟨by rfl, ?_⟩) ?_ ?_
  rotate_left
  ·intro w'
   go_simp
   with_reducible rfl
  rotate_left
  ·simp only [Act.put, List.setIfInBounds_toArray, List.set_cons_zero, List.set_cons_succ, i64_w, i32_w]
   rfl
  refine done_ (done_of HT_.out (by kernel_rfl)) ?_
  have hnb32 := NB327_322.out
  have hnc32 := NB322_327.out
  have hnb33 := NB327_0.out
  have hnc33 := NB0_327.out
  have hcz34_0 : w28.cell? ⟨gb327, 0, none⟩ = some (.int .i64 0) := (blk_cell BK327.out 0).trans rfl
  have hcz34_1 : w28.cell? ⟨gb327, 1, none⟩ = some (.int .i64 0) := (blk_cell BK327.out 1).trans rfl
  have hcz34_2 : w28.cell? ⟨gb327, 2, none⟩ = some (.int .i64 0) := (blk_cell BK327.out 2).trans rfl
  have hfz34_0 := blk_frozen BK327.out 0
  have hfz34_1 := blk_frozen BK327.out 1
  have hfz34_2 := blk_frozen BK327.out 2
  try go_wp2
  refine bodyPost_panic rfl ?_
  exact ⟨by first | rfl | (simp [*, errW_none, errW_some] <;> rfl), by repeat (first | (with_reducible first | exact HI0.out | apply IsS76.alloc | apply IsS76.drewN | apply IsS76.drew | apply IsS76.set_0 | apply IsS76.set_1 | apply IsS76.far (hne := NB0_322.out) | apply IsS76.far (hne := NB0_327.out)) | exact HI0.out), by repeat (first | (with_reducible first | exact HB.out | apply bw1 | apply bw2 | apply bw3 | refine below_set ?_ (IsS76.ge HI0.out) | refine below_set ?_ GE322.out | refine below_set ?_ GE327.out) | exact HB.out), by repeat (first | (with_reducible first | exact HK.out | apply bk1 | apply bk2 | apply bk3 | apply bk4 | refine keep_far ?_ GW322.out _ | refine keep_far ?_ GW327.out _) | exact HK.out)⟩
end Go.Proofs.YtifachjefpcgcaaGreatDoor.P
