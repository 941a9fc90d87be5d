import Derived.Test.YtifachjefpcgcaaGreatDoorGPD
import Derived.Test.YtifachjefpcgcaaGreatDoorGP15
import Derived.Test.YtifachjefpcgcaaGreatDoorGP17
namespace Go.Proofs.YtifachjefpcgcaaGreatDoor.P
open Go.RowKit Go.Proofs.YtifachjefpcgcaaGreatDoorW.PrintWords Go.Proofs.YtifachjefpcgcaaGreatDoorW.PrintLast Go.Proofs.YtifachjefpcgcaaGreatDoorW.PrintMore
attribute [local go_sem] max2_int min2_int max_two min_two max_three min_three max_four min_four
set_option linter.unusedVariables false
set_option linter.unusedSimpArgs false
def scan_reader_include.T1 : Bool × List (List Nat × List Nat) := (true, [([], []), ([0], [0]), ([1], [1]), ([2], [2]), ([], []), ([4], [4]), ([5], [5]), ([6], [6]), ([3, 7], [3, 7]), ([8], [8]), ([9], [9]), ([9], [9]), ([], []), ([12, 10, 8, 0, 1, 2, 3, 4, 5, 6, 7, 8, 9, 10, 12], [10, 12]), ([11, 13, 0, 1, 2, 3, 4, 5, 6, 7, 8, 9, 10, 11, 12, 13], [11])])
def scan_reader_include.B1 : List Nat := [0, 1, 3, 7, 0, 16, 48, 112, 255, 511, 1023, 1023, 0, 6143, 16383]
theorem scan_reader_include.tab1 : rtab .any (opsOf Tryz.f38 1) = scan_reader_include.T1 := by kernel_rfl
theorem scan_reader_include.bits1 : waitsOk scan_reader_include.T1.2 scan_reader_include.B1 = true := by kernel_rfl
def scan_reader_include.T2 : Bool × List (List Nat × List Nat) := (true, [([], []), ([0], [0]), ([1], [1]), ([2], [2]), ([3, 2], [2, 3]), ([4, 2], [2, 4]), ([2, 5], [2, 5]), ([6, 2], [6]), ([7], [7]), ([8, 7], [7, 8]), ([9, 7], [7, 9]), ([10, 7], [7, 10]), ([7], [7]), ([12, 7], [7, 12]), ([7], [7]), ([14, 7], [7, 14]), ([11, 13, 15, 7], [7, 11, 13, 15]), ([16, 7], [7, 16]), ([7, 17], [7, 17])])
def scan_reader_include.B2 : List Nat := [0, 1, 3, 7, 15, 31, 63, 127, 255, 511, 1023, 2047, 255, 4351, 255, 16639, 65535, 131071, 262143]
theorem scan_reader_include.tab2 : rtab .any (opsOf Tryz.f38 2) = scan_reader_include.T2 := by kernel_rfl
theorem scan_reader_include.bits2 : waitsOk scan_reader_include.T2.2 scan_reader_include.B2 = true := by kernel_rfl
set_option maxHeartbeats 8000000 in
set_option maxRecDepth 100000 in
theorem scan_reader_include.calls (k : Nat) (g : Nat) (s0_0 : ByteArray) (s0_1 : Int) (r1 : Bool) (r2 : Int) (r3 : Int) (r4 : ByteArray) (r5 : ByteArray) (r6 : Int) (r7 : Bool) (r8 : ByteArray) (r9 : Int) (w0 w : World) (hI : IsS76 w0 w g s0_0 s0_1) (hB : Below w0.heap.size w0 w) (h : scan_reader_include.f k s0_0 s0_1 = some (r1, r2, r3, r4, r5, r6, r7, r8, r9)) (hI_ : Inv w0) :
  Calls Tryz.prog 38 #[.pointer (some ⟨g, 0, none⟩)] w fun e w' => e = cond r1 (Ending.panicked [{ v := .iface 26 (.agg #[.int .i64 r2, .int .i64 r3]), recovered := false }]) (Ending.returned (.tuple #[.agg #[.string r4, .string r5, .int .i64 r6], .bool r7])) ∧ IsS76 w0 w' g r8 r9 ∧ Below w0.heap.size w0 w' ∧ KeepBut w w' g none := by
 have HI := Aside0.mk hI_
 clear hI_
 have hu35 := Tryz.underlying35
 have hu81 := Tryz.underlying81
 have HI0 := Aside0.mk hI
 have HK := Aside0.mk (KeepBut.refl w g none)
 have HL := Aside0.mk hB.size
 clear hI
 have HW0 := Aside0.mk hB.size
 have HB := Aside0.mk hB
 clear hB
 have H : ((lex_Next.f k s0_0 s0_1).bind fun bt339 => (if bt339.2.2.2 = 0 then (if bt339.1 = 4 then (if 0 ≤ bt339.2.1 then (if bt339.2.1 ≤ bt339.2.2.1 then (if bt339.2.2.1 ≤ (s0_0.size : Int) then (scan_reader_include.j0 k ((s0_0.extract (bt339.2.1 : Int).toNat (bt339.2.2.1 : Int).toNat).toList != ([105, 110, 99, 108, 117, 100, 101] : List UInt8)) s0_0 s0_1 bt339.1 bt339.2.1 bt339.2.2.1) else (none)) else (none)) else (none)) else (scan_reader_include.j0 k true s0_0 s0_1 bt339.1 bt339.2.1 bt339.2.2.1)) else (scan_reader_include.j0 k true s0_0 s0_1 bt339.1 bt339.2.1 bt339.2.2.1))) = some (r1, r2, r3, r4, r5, r6, r7, r8, r9) := h
 clear h
 replace H := Option.bind_eq_some_iff.mp H
 obtain ⟨⟨t339, t340, t341, t342⟩, A20, H⟩ := H
 replace H : (if t342 = 0 then (if t339 = 4 then (if 0 ≤ t340 then (if t340 ≤ t341 then (if t341 ≤ (s0_0.size : Int) then (scan_reader_include.j0 k ((s0_0.extract (t340 : Int).toNat (t341 : Int).toNat).toList != ([105, 110, 99, 108, 117, 100, 101] : List UInt8)) s0_0 s0_1 t339 t340 t341) else (none)) else (none)) else (none)) else (scan_reader_include.j0 k true s0_0 s0_1 t339 t340 t341)) else (scan_reader_include.j0 k true s0_0 s0_1 t339 t340 t341)) = some (r1, r2, r3, r4, r5, r6, r7, r8, r9) := H
 have A2 := Aside0.mk A20
 clear A20
 have HC3 := Aside0.mk H
 clear H
 go_enter Tryz.func38, Tryz.ntmps38
 try go_wp2_with (first | ((with_reducible refine gate_dst (N := 2) rfl ?_); refine box_event ?hg (N := 2) ?hd (cs := #[.string (⟨#[]⟩ : ByteArray), .string (⟨#[]⟩ : ByteArray), .int .i64 0]) (t := 35) ?hr ?_; (case hd => rfl); (case hg => rfl); (case hr => first | (go_simp; done) | (go_simp; rfl)); intro gb338 hg w4 hbox hb; have n0_ := Aside0.mk (IsS76.below (by repeat (first | (with_reducible first | exact HI0.out | apply IsS76.alloc | apply IsS76.drewN | apply IsS76.drew | apply IsS76.set_0 | apply IsS76.set_1) | exact HI0.out)) hb); have n1_ := Aside0.mk (KeepBut.trans (by repeat (first | (with_reducible first | exact HK.out | apply bk1 | apply bk2 | apply bk3 | apply bk4) | exact HK.out)) (KeepBut.of_below hb g none) (.inl rfl)); have n2_ := Aside0.mk (below_step (by repeat (first | (with_reducible first | exact HB.out | apply bw1 | apply bw2 | apply bw3 | refine below_set ?_ (IsS76.ge HI0.out)) | exact HB.out)) hb); have n3_ := Aside0.mk (hbox); have n4_ := Aside0.mk ((by rw [hg]; exact (keep_size (w := w) (g := g) (row := none) (by repeat (first | (with_reducible first | exact HK.out | apply bk1 | apply bk2 | apply bk3 | apply bk4) | exact HK.out))) : w.heap.size ≤ gb338)); have n5_ := Aside0.mk ((Nat.le_trans HW0.out n4_.out : w0.heap.size ≤ gb338)); have n6_ := Aside0.mk ((by rw [hg]; exact Nat.ne_of_lt (IsS76.lt (show IsS76 w0 _ g s0_0 s0_1 from by repeat (first | (with_reducible first | exact HI0.out | apply IsS76.alloc | apply IsS76.drewN | apply IsS76.drew | apply IsS76.set_0 | apply IsS76.set_1) | exact HI0.out))) : g ≠ gb338)); have n7_ := Aside0.mk (Ne.symm n6_.out); clear HI0 HK HB; have HI0 := n0_; have HK := n1_; have HB := n2_; have BK338 := n3_; have GW338 := n4_; have GE338 := n5_; have NB0_338 := n6_; have NB338_0 := n7_; clear n0_ n1_ n2_ n3_ n4_ n5_ n6_ n7_; clear hb hbox hg))
 have n0_ := Aside0.mk (blk_drew BK338.out)
 have n1_ := Aside0.mk (IsS76.drew HI0.out)
 have n2_ := Aside0.mk (keep_drew HK.out)
 have n3_ := Aside0.mk (below_drew1 HB.out)
 clear BK338 HI0 HK HB
 have BK338 := n0_
 have HI0 := n1_
 have HK := n2_
 have HB := n3_
 clear n0_ n1_ n2_ n3_
 refine start_ (n := 15) (S := fun w' => w'.cell? ⟨g, 0, none⟩ = some (.string s0_0) ∧ w'.cell? ⟨g, 1, none⟩ = some (.int .i64 s0_1)) (ds := []) #[false, false, false, false, false, false, false, false, false, false, false, false, false, false, false] (by kernel_rfl) rfl rfl ⟨(blk_cell HI0.out.1 0).trans rfl, (blk_cell HI0.out.1 1).trans rfl⟩ (fun hHeld => ?_); refine with_tabW scan_reader_include.tab1 scan_reader_include.bits1 (fun HT_ HW_ => ?_)
 generalize w4.drew = w5 at BK338 HI0 HK HB hHeld ⊢
 refine pure_ (i := 0) (N := some 8) (v := ?_) (a' := ?_) #[true, false, false, false, false, false, false, false, false, false, false, false, false, false, false] rfl rfl (any_of HT_.out (by kernel_rfl)) (fun _ _ _ h => h) (Or.inl ⟨by rfl, ?_⟩) ?_ ?_
 rotate_left
 ·intro w'
  go_simp
  with_reducible rfl
 rotate_left
 ·simp only [Act.put, List.setIfInBounds_toArray, List.set_cons_zero, List.set_cons_succ, i64_w, i32_w]
  rfl
 refine pure_ (i := 1) (N := some 9) (v := ?_) (a' := ?_) #[true, true, false, false, false, false, false, false, false, false, false, false, false, false, false] rfl rfl (any_of HT_.out (by kernel_rfl)) (fun _ _ _ h => h) (Or.inl ⟨by rfl, ?_⟩) ?_ ?_
 rotate_left
 ·intro w'
  go_simp
  with_reducible rfl
 rotate_left
 ·simp only [Act.put, List.setIfInBounds_toArray, List.set_cons_zero, List.set_cons_succ, i64_w, i32_w]
  rfl
 refine pure_ (i := 2) (N := some 10) (v := ?_) (a' := ?_) #[true, true, true, false, false, false, false, false, false, false, false, false, false, false, false] rfl rfl (any_of HT_.out (by kernel_rfl)) (fun _ _ _ h => h) (Or.inl ⟨by rfl, ?_⟩) ?_ ?_
 rotate_left
 ·intro w'
  go_simp
  with_reducible rfl
 rotate_left
 ·simp only [Act.put, List.setIfInBounds_toArray, List.set_cons_zero, List.set_cons_succ, i64_w, i32_w]
  rfl
 refine pure_ (i := 4) (N := some 12) (v := ?_) (a' := ?_) #[true, true, true, false, true, false, false, false, false, false, false, false, false, false, false] rfl rfl (any_of HT_.out (by kernel_rfl)) (fun _ _ _ h => h) (Or.inl ⟨by rfl, ?_⟩) ?_ ?_
 rotate_left
 ·intro w'
  go_simp
  with_reducible rfl
 rotate_left
 ·simp only [Act.put, List.setIfInBounds_toArray, List.set_cons_zero, List.set_cons_succ, i64_w, i32_w]
  rfl
 refine pure_ (i := 5) (N := some 13) (v := ?_) (a' := ?_) #[true, true, true, false, true, true, false, false, false, false, false, false, false, false, false] rfl rfl (any_of HT_.out (by kernel_rfl)) (fun _ _ _ h => h) (Or.inl ⟨by rfl, ?_⟩) ?_ ?_
 rotate_left
 ·intro w'
  go_simp
  with_reducible rfl
 rotate_left
 ·simp only [Act.put, List.setIfInBounds_toArray, List.set_cons_zero, List.set_cons_succ, i64_w, i32_w]
  rfl
 refine pure_ (i := 6) (N := some 14) (v := ?_) (a' := ?_) #[true, true, true, false, true, true, true, false, false, false, false, false, false, false, false] rfl rfl (any_of HT_.out (by kernel_rfl)) (fun _ _ _ h => h) (Or.inl ⟨by rfl, ?_⟩) ?_ ?_
 rotate_left
 ·intro w'
  go_simp
  with_reducible rfl
 rotate_left
 ·simp only [Act.put, List.setIfInBounds_toArray, List.set_cons_zero, List.set_cons_succ, i64_w, i32_w]
  rfl
 refine take_ (i := 3) (N := some 11) (v := ?_) (a' := ?_) #[true, true, true, true, true, true, true, false, false, false, false, false, false, false, false] rfl rfl (take_ofW HT_.out HW_.out (by kernel_rfl)) (fun _ _ _ h => h) (Or.inl ⟨by rfl, ?_⟩) hHeld ?_ ?_
 rotate_left
 ·rintro w' ⟨s0, s1⟩
  go_simp
  with_reducible rfl
 rotate_left
 ·simp only [Act.put, List.setIfInBounds_toArray, List.set_cons_zero, List.set_cons_succ, i64_w, i32_w]
  rfl
 refine take_ (i := 7) (N := some 15) (v := ?_) (a' := ?_) #[true, true, true, true, true, true, true, true, false, false, false, false, false, false, false] rfl rfl (take_ofW HT_.out HW_.out (by kernel_rfl)) (fun _ _ _ h => h) (Or.inl ⟨by rfl, ?_⟩) hHeld ?_ ?_
 rotate_left
 ·rintro w' ⟨s0, s1⟩
  go_simp
  with_reducible rfl
 rotate_left
 ·simp only [Act.put, List.setIfInBounds_toArray, List.set_cons_zero, List.set_cons_succ, i64_w, i32_w]
  rfl
 refine join_ (σ := Nat) 2 #[true, true, true, true, true, true, true, true, true, true, true, true, true, false, false] (fun s_ => [(16, .tuple #[.agg #[.int .i64 t339, .int .i64 t340, .int .i64 t341], .int .i64 t342]), (4, .pointer (some ⟨s_, 0, none⟩)), (7, .tuple #[.agg #[.int .i64 t339, .int .i64 t340, .int .i64 t341], .int .i64 t342]), (17, .agg #[.int .i64 t339, .int .i64 t340, .int .i64 t341]), (18, .int .i64 t342)]) (fun s_ w' => (w'.cell? ⟨g, 0, none⟩ = some (.string s0_0) ∧ w'.cell? ⟨g, 1, none⟩ = some (.int .i64 s0_1)) ∧ (w'.heap[gb338]? = some (.cells #[.string (⟨#[]⟩ : ByteArray), .string (⟨#[]⟩ : ByteArray), .int .i64 0] 35 (0, 0))) ∧ (w'.heap[s_]? = some (.cells #[.int .i64 0, .int .i64 0, .int .i64 0] 81 (0, 0))) ∧ (w.heap.size ≤ s_) ∧ (w0.heap.size ≤ s_) ∧ (g ≠ s_) ∧ (s_ ≠ g) ∧ (gb338 ≠ s_) ∧ (s_ ≠ gb338) ∧ (IsS76 w0 w' g s0_0 s0_1) ∧ (KeepBut w w' g none) ∧ (Below w0.heap.size w0 w')) ?_ ?_
 rotate_left
 ·intro hCont
  refine two_ (i := 8) (j := 12) (Ni := some 16) (Nj := some 4) #[true, true, true, true, true, true, true, true, true, false, false, false, false, false, false] #[true, true, true, true, true, true, true, true, false, false, false, false, true, false, false] rfl rfl rfl rfl (two_of HT_.out (by kernel_rfl)) (by decide) (by decide) (fun K hK => ?_) (fun K hK => ?_)
  ·skip
   refine goes_ Tryz.func53 (by kernel_rfl) rfl #[.string s0_0, .int .i64 s0_1] (by rfl) rfl rfl (am.trans (by rfl)) ?_
   with_reducible refine (lex_Next.calls k s0_0 s0_1 t339 t340 t341 t342 _ A2.out (by first | exact HI.out | exact Inv.below HI.out (by repeat (first | (with_reducible first | exact HB.out | apply bw1 | apply bw2 | apply bw3 | refine below_set ?_ (IsS76.ge HI0.out) | refine below_set ?_ GE338.out) | exact HB.out)) | exact Inv.drawn HI.out (by repeat (first | exact Drawn0.refl _ | apply Drawn0.step)))).mono ?_
   rintro e w6 ⟨rfl, hb⟩
   refine ⟨_, rfl, ?_⟩
   have n0_ := Aside0.mk (IsS76.below (by repeat (first | (with_reducible first | exact HI0.out | apply IsS76.alloc | apply IsS76.drewN | apply IsS76.drew | apply IsS76.set_0 | apply IsS76.set_1 | apply IsS76.far (hne := NB0_338.out)) | exact HI0.out)) hb)
   have n1_ := Aside0.mk (blk_below (g := gb338) (o := .cells #[.string (⟨#[]⟩ : ByteArray), .string (⟨#[]⟩ : ByteArray), .int .i64 0] 35 (0, 0)) (by (with_reducible repeat (first | apply bd1 | apply bd2 | apply bd3)); exact BK338.out) hb)
   have n2_ := Aside0.mk (KeepBut.trans (by repeat (first | (with_reducible first | exact HK.out | apply bk1 | apply bk2 | apply bk3 | apply bk4 | refine keep_far ?_ GW338.out _) | exact HK.out)) (KeepBut.of_below hb g none) (.inl rfl))
   have n3_ := Aside0.mk (below_step (by repeat (first | (with_reducible first | exact HB.out | apply bw1 | apply bw2 | apply bw3 | refine below_set ?_ (IsS76.ge HI0.out) | refine below_set ?_ GE338.out) | exact HB.out)) hb)
   clear HI0 BK338 HK HB
   have HI0 := n0_
   have BK338 := n1_
   have HK := n2_
   have HB := n3_
   clear n0_ n1_ n2_ n3_
   (try clear hb)
   (try clear hb2)
   (try clear hk)
   (try clear hi)
   refine hK.out _ _ ⟨(blk_cell HI0.out.1 0).trans rfl, (blk_cell HI0.out.1 1).trans rfl⟩ (fun hHeld => ?_)
   clear hK K
   refine norm_ (a' := ?_) ?_ ?_
   rotate_left
   ·show Act.put _ (some 16) _ = _
    simp only [Act.put, List.setIfInBounds_toArray, List.set_cons_zero, List.set_cons_succ, i64_w, i32_w]
    rfl
   refine pure_ (i := 9) (N := some 7) (v := ?_) (a' := ?_) #[true, true, true, true, true, true, true, true, true, true, false, false, false, false, false] rfl rfl (any_of HT_.out (by kernel_rfl)) (fun _ _ _ h => h) (Or.inl ⟨by rfl, ?_⟩) ?_ ?_
   rotate_left
   ·intro w'
    go_simp
    with_reducible rfl
   rotate_left
   ·simp only [Act.put, List.setIfInBounds_toArray, List.set_cons_zero, List.set_cons_succ, i64_w, i32_w]
    rfl
   refine pure_ (i := 10) (N := some 17) (v := ?_) (a' := ?_) #[true, true, true, true, true, true, true, true, true, true, true, false, false, false, false] rfl rfl (any_of HT_.out (by kernel_rfl)) (fun _ _ _ h => h) (Or.inl ⟨by rfl, ?_⟩) ?_ ?_
   rotate_left
   ·intro w'
    go_simp
    with_reducible rfl
   rotate_left
   ·simp only [Act.put, List.setIfInBounds_toArray, List.set_cons_zero, List.set_cons_succ, i64_w, i32_w]
    rfl
   refine pure_ (i := 11) (N := some 18) (v := ?_) (a' := ?_) #[true, true, true, true, true, true, true, true, true, true, true, true, false, false, false] rfl rfl (any_of HT_.out (by kernel_rfl)) (fun _ _ _ h => h) (Or.inl ⟨by rfl, ?_⟩) ?_ ?_
   rotate_left
   ·intro w'
    go_simp
    with_reducible rfl
   rotate_left
   ·simp only [Act.put, List.setIfInBounds_toArray, List.set_cons_zero, List.set_cons_succ, i64_w, i32_w]
    rfl
   refine one_ (i := 12) (N := some 4) #[true, true, true, true, true, true, true, true, true, true, true, true, true, false, false] rfl rfl (one_of HT_.out (by kernel_rfl)) (by decide) (fun K hK => ?_)
   refine box_step ?hg (N := 4) ?hd (cs := #[.int .i64 0, .int .i64 0, .int .i64 0]) (t := 81) ?hr ?_; (case hd => rfl); (case hg => rfl); (case hr => first | (go_simp; done) | (go_simp; rfl))
   intro gb343 hg w7 hbox hb
   have n0_ := Aside0.mk (IsS76.below (by repeat (first | (with_reducible first | exact HI0.out | apply IsS76.alloc | apply IsS76.drewN | apply IsS76.drew | apply IsS76.set_0 | apply IsS76.set_1 | apply IsS76.far (hne := NB0_338.out)) | exact HI0.out)) hb)
   have n1_ := Aside0.mk (blk_below (g := gb338) (o := .cells #[.string (⟨#[]⟩ : ByteArray), .string (⟨#[]⟩ : ByteArray), .int .i64 0] 35 (0, 0)) (by (with_reducible repeat (first | apply bd1 | apply bd2 | apply bd3)); exact BK338.out) hb)
   have n2_ := Aside0.mk (KeepBut.trans (by repeat (first | (with_reducible first | exact HK.out | apply bk1 | apply bk2 | apply bk3 | apply bk4 | refine keep_far ?_ GW338.out _) | exact HK.out)) (KeepBut.of_below hb g none) (.inl rfl))
   have n3_ := Aside0.mk (below_step (by repeat (first | (with_reducible first | exact HB.out | apply bw1 | apply bw2 | apply bw3 | refine below_set ?_ (IsS76.ge HI0.out) | refine below_set ?_ GE338.out) | exact HB.out)) hb)
   have n4_ := Aside0.mk (hbox)
   have n5_ := Aside0.mk ((by rw [hg]; exact (keep_size (w := w) (g := g) (row := none) (by repeat (first | (with_reducible first | exact HK.out | apply bk1 | apply bk2 | apply bk3 | apply bk4 | refine keep_far ?_ GW338.out _) | exact HK.out))) : w.heap.size ≤ gb343))
   have n6_ := Aside0.mk ((Nat.le_trans HW0.out n5_.out : w0.heap.size ≤ gb343))
   have n7_ := Aside0.mk ((by rw [hg]; exact Nat.ne_of_lt (blk_lt (g := gb338) (o := .cells #[.string (⟨#[]⟩ : ByteArray), .string (⟨#[]⟩ : ByteArray), .int .i64 0] 35 (0, 0)) (by (with_reducible repeat (first | apply bd1 | apply bd2 | apply bd3)); exact BK338.out)) : gb338 ≠ gb343))
   have n8_ := Aside0.mk (Ne.symm n7_.out)
   have n9_ := Aside0.mk ((by rw [hg]; exact Nat.ne_of_lt (IsS76.lt (show IsS76 w0 _ g s0_0 s0_1 from by repeat (first | (with_reducible first | exact HI0.out | apply IsS76.alloc | apply IsS76.drewN | apply IsS76.drew | apply IsS76.set_0 | apply IsS76.set_1 | apply IsS76.far (hne := NB0_338.out)) | exact HI0.out))) : g ≠ gb343))
   have n10_ := Aside0.mk (Ne.symm n9_.out)
   clear HI0 BK338 HK HB
   have HI0 := n0_
   have BK338 := n1_
   have HK := n2_
   have HB := n3_
   have BK343 := n4_
   have GW343 := n5_
   have GE343 := n6_
   have NB338_343 := n7_
   have NB343_338 := n8_
   have NB0_343 := n9_
   have NB343_0 := n10_
   clear n0_ n1_ n2_ n3_ n4_ n5_ n6_ n7_ n8_ n9_ n10_ hb hbox hg
   refine hK.out _ _ ⟨(blk_cell HI0.out.1 0).trans rfl, (blk_cell HI0.out.1 1).trans rfl⟩ (fun hHeld => ?_)
   clear hK K
   refine norm_ (a' := ?_) ?_ ?_
   rotate_left
   ·show Act.put _ (some 4) _ = _
    simp only [Act.put, List.setIfInBounds_toArray, List.set_cons_zero, List.set_cons_succ, i64_w, i32_w]
    rfl
   exact norm_ (by simp only [putAll, Act.put, List.setIfInBounds_toArray, List.set_cons_zero, List.set_cons_succ]) (hCont (gb343) _ ⟨hHeld, (by (with_reducible repeat (first | apply bd1 | apply bd2 | apply bd3)); exact BK338.out), (by (with_reducible repeat (first | apply bd1 | apply bd2 | apply bd3)); exact BK343.out), GW343.out, GE343.out, NB0_343.out, NB343_0.out, NB338_343.out, NB343_338.out, (by repeat (first | (with_reducible first | exact HI0.out | apply IsS76.alloc | apply IsS76.drewN | apply IsS76.drew | apply IsS76.set_0 | apply IsS76.set_1 | apply IsS76.far (hne := NB0_338.out) | apply IsS76.far (hne := NB0_343.out)) | exact HI0.out)), (by repeat (first | (with_reducible first | exact HK.out | apply bk1 | apply bk2 | apply bk3 | apply bk4 | refine keep_far ?_ GW338.out _ | refine keep_far ?_ GW343.out _) | exact HK.out)), (by repeat (first | (with_reducible first | exact HB.out | apply bw1 | apply bw2 | apply bw3 | refine below_set ?_ (IsS76.ge HI0.out) | refine below_set ?_ GE338.out | refine below_set ?_ GE343.out) | exact HB.out))⟩)
  ·skip
   refine box_step ?hg (N := 4) ?hd (cs := #[.int .i64 0, .int .i64 0, .int .i64 0]) (t := 81) ?hr ?_; (case hd => rfl); (case hg => rfl); (case hr => first | (go_simp; done) | (go_simp; rfl))
   intro gb343 hg w6 hbox hb
   have n0_ := Aside0.mk (IsS76.below (by repeat (first | (with_reducible first | exact HI0.out | apply IsS76.alloc | apply IsS76.drewN | apply IsS76.drew | apply IsS76.set_0 | apply IsS76.set_1 | apply IsS76.far (hne := NB0_338.out)) | exact HI0.out)) hb)
   have n1_ := Aside0.mk (blk_below (g := gb338) (o := .cells #[.string (⟨#[]⟩ : ByteArray), .string (⟨#[]⟩ : ByteArray), .int .i64 0] 35 (0, 0)) (by (with_reducible repeat (first | apply bd1 | apply bd2 | apply bd3)); exact BK338.out) hb)
   have n2_ := Aside0.mk (KeepBut.trans (by repeat (first | (with_reducible first | exact HK.out | apply bk1 | apply bk2 | apply bk3 | apply bk4 | refine keep_far ?_ GW338.out _) | exact HK.out)) (KeepBut.of_below hb g none) (.inl rfl))
   have n3_ := Aside0.mk (below_step (by repeat (first | (with_reducible first | exact HB.out | apply bw1 | apply bw2 | apply bw3 | refine below_set ?_ (IsS76.ge HI0.out) | refine below_set ?_ GE338.out) | exact HB.out)) hb)
   have n4_ := Aside0.mk (hbox)
   have n5_ := Aside0.mk ((by rw [hg]; exact (keep_size (w := w) (g := g) (row := none) (by repeat (first | (with_reducible first | exact HK.out | apply bk1 | apply bk2 | apply bk3 | apply bk4 | refine keep_far ?_ GW338.out _) | exact HK.out))) : w.heap.size ≤ gb343))
   have n6_ := Aside0.mk ((Nat.le_trans HW0.out n5_.out : w0.heap.size ≤ gb343))
   have n7_ := Aside0.mk ((by rw [hg]; exact Nat.ne_of_lt (blk_lt (g := gb338) (o := .cells #[.string (⟨#[]⟩ : ByteArray), .string (⟨#[]⟩ : ByteArray), .int .i64 0] 35 (0, 0)) (by (with_reducible repeat (first | apply bd1 | apply bd2 | apply bd3)); exact BK338.out)) : gb338 ≠ gb343))
   have n8_ := Aside0.mk (Ne.symm n7_.out)
   have n9_ := Aside0.mk ((by rw [hg]; exact Nat.ne_of_lt (IsS76.lt (show IsS76 w0 _ g s0_0 s0_1 from by repeat (first | (with_reducible first | exact HI0.out | apply IsS76.alloc | apply IsS76.drewN | apply IsS76.drew | apply IsS76.set_0 | apply IsS76.set_1 | apply IsS76.far (hne := NB0_338.out)) | exact HI0.out))) : g ≠ gb343))
   have n10_ := Aside0.mk (Ne.symm n9_.out)
   clear HI0 BK338 HK HB
   have HI0 := n0_
   have BK338 := n1_
   have HK := n2_
   have HB := n3_
   have BK343 := n4_
   have GW343 := n5_
   have GE343 := n6_
   have NB338_343 := n7_
   have NB343_338 := n8_
   have NB0_343 := n9_
   have NB343_0 := n10_
   clear n0_ n1_ n2_ n3_ n4_ n5_ n6_ n7_ n8_ n9_ n10_ hb hbox hg
   refine hK.out _ _ ⟨(blk_cell HI0.out.1 0).trans rfl, (blk_cell HI0.out.1 1).trans rfl⟩ (fun hHeld => ?_)
   clear hK K
   refine norm_ (a' := ?_) ?_ ?_
   rotate_left
   ·show Act.put _ (some 4) _ = _
    simp only [Act.put, List.setIfInBounds_toArray, List.set_cons_zero, List.set_cons_succ, i64_w, i32_w]
    rfl
   refine one_ (i := 8) (N := some 16) #[true, true, true, true, true, true, true, true, true, false, false, false, true, false, false] rfl rfl (one_of HT_.out (by kernel_rfl)) (by decide) (fun K hK => ?_)
   refine goes_ Tryz.func53 (by kernel_rfl) rfl #[.string s0_0, .int .i64 s0_1] (by rfl) rfl rfl (am.trans (by rfl)) ?_
   with_reducible refine (lex_Next.calls k s0_0 s0_1 t339 t340 t341 t342 _ A2.out (by first | exact HI.out | exact Inv.below HI.out (by repeat (first | (with_reducible first | exact HB.out | apply bw1 | apply bw2 | apply bw3 | refine below_set ?_ (IsS76.ge HI0.out) | refine below_set ?_ GE338.out | refine below_set ?_ GE343.out) | exact HB.out)) | exact Inv.drawn HI.out (by repeat (first | exact Drawn0.refl _ | apply Drawn0.step)))).mono ?_
   rintro e w7 ⟨rfl, hb⟩
   refine ⟨_, rfl, ?_⟩
   have n0_ := Aside0.mk (IsS76.below (by repeat (first | (with_reducible first | exact HI0.out | apply IsS76.alloc | apply IsS76.drewN | apply IsS76.drew | apply IsS76.set_0 | apply IsS76.set_1 | apply IsS76.far (hne := NB0_338.out) | apply IsS76.far (hne := NB0_343.out)) | exact HI0.out)) hb)
   have n1_ := Aside0.mk (blk_below (g := gb338) (o := .cells #[.string (⟨#[]⟩ : ByteArray), .string (⟨#[]⟩ : ByteArray), .int .i64 0] 35 (0, 0)) (by (with_reducible repeat (first | apply bd1 | apply bd2 | apply bd3)); exact BK338.out) hb)
   have n2_ := Aside0.mk (blk_below (g := gb343) (o := .cells #[.int .i64 0, .int .i64 0, .int .i64 0] 81 (0, 0)) (by (with_reducible repeat (first | apply bd1 | apply bd2 | apply bd3)); exact BK343.out) hb)
   have n3_ := Aside0.mk (KeepBut.trans (by repeat (first | (with_reducible first | exact HK.out | apply bk1 | apply bk2 | apply bk3 | apply bk4 | refine keep_far ?_ GW338.out _ | refine keep_far ?_ GW343.out _) | exact HK.out)) (KeepBut.of_below hb g none) (.inl rfl))
   have n4_ := Aside0.mk (below_step (by repeat (first | (with_reducible first | exact HB.out | apply bw1 | apply bw2 | apply bw3 | refine below_set ?_ (IsS76.ge HI0.out) | refine below_set ?_ GE338.out | refine below_set ?_ GE343.out) | exact HB.out)) hb)
   clear HI0 BK338 BK343 HK HB
   have HI0 := n0_
   have BK338 := n1_
   have BK343 := n2_
   have HK := n3_
   have HB := n4_
   clear n0_ n1_ n2_ n3_ n4_
   (try clear hb)
   (try clear hb2)
   (try clear hk)
   (try clear hi)
   refine hK.out _ _ ⟨(blk_cell HI0.out.1 0).trans rfl, (blk_cell HI0.out.1 1).trans rfl⟩ (fun hHeld => ?_)
   clear hK K
   refine norm_ (a' := ?_) ?_ ?_
   rotate_left
   ·show Act.put _ (some 16) _ = _
    simp only [Act.put, List.setIfInBounds_toArray, List.set_cons_zero, List.set_cons_succ, i64_w, i32_w]
    rfl
   refine pure_ (i := 9) (N := some 7) (v := ?_) (a' := ?_) #[true, true, true, true, true, true, true, true, true, true, false, false, true, false, false] rfl rfl (any_of HT_.out (by kernel_rfl)) (fun _ _ _ h => h) (Or.inl ⟨by rfl, ?_⟩) ?_ ?_
   rotate_left
   ·intro w'
    go_simp
    with_reducible rfl
   rotate_left
   ·simp only [Act.put, List.setIfInBounds_toArray, List.set_cons_zero, List.set_cons_succ, i64_w, i32_w]
    rfl
   refine pure_ (i := 10) (N := some 17) (v := ?_) (a' := ?_) #[true, true, true, true, true, true, true, true, true, true, true, false, true, false, false] rfl rfl (any_of HT_.out (by kernel_rfl)) (fun _ _ _ h => h) (Or.inl ⟨by rfl, ?_⟩) ?_ ?_
   rotate_left
   ·intro w'
    go_simp
    with_reducible rfl
   rotate_left
   ·simp only [Act.put, List.setIfInBounds_toArray, List.set_cons_zero, List.set_cons_succ, i64_w, i32_w]
    rfl
   refine pure_ (i := 11) (N := some 18) (v := ?_) (a' := ?_) #[true, true, true, true, true, true, true, true, true, true, true, true, true, false, false] rfl rfl (any_of HT_.out (by kernel_rfl)) (fun _ _ _ h => h) (Or.inl ⟨by rfl, ?_⟩) ?_ ?_
   rotate_left
   ·intro w'
    go_simp
    with_reducible rfl
   rotate_left
   ·simp only [Act.put, List.setIfInBounds_toArray, List.set_cons_zero, List.set_cons_succ, i64_w, i32_w]
    rfl
   exact norm_ (by simp only [putAll, Act.put, List.setIfInBounds_toArray, List.set_cons_zero, List.set_cons_succ]) (hCont (gb343) _ ⟨hHeld, (by (with_reducible repeat (first | apply bd1 | apply bd2 | apply bd3)); exact BK338.out), (by (with_reducible repeat (first | apply bd1 | apply bd2 | apply bd3)); exact BK343.out), GW343.out, GE343.out, NB0_343.out, NB343_0.out, NB338_343.out, NB343_338.out, (by repeat (first | (with_reducible first | exact HI0.out | apply IsS76.alloc | apply IsS76.drewN | apply IsS76.drew | apply IsS76.set_0 | apply IsS76.set_1 | apply IsS76.far (hne := NB0_338.out) | apply IsS76.far (hne := NB0_343.out)) | exact HI0.out)), (by repeat (first | (with_reducible first | exact HK.out | apply bk1 | apply bk2 | apply bk3 | apply bk4 | refine keep_far ?_ GW338.out _ | refine keep_far ?_ GW343.out _) | exact HK.out)), (by repeat (first | (with_reducible first | exact HB.out | apply bw1 | apply bw2 | apply bw3 | refine below_set ?_ (IsS76.ge HI0.out) | refine below_set ?_ GE338.out | refine below_set ?_ GE343.out) | exact HB.out))⟩)
 rintro gb343 w8 ⟨hS_, h0_, h1_, h2_, h3_, h4_, h5_, h6_, h7_, h8_, h9_, h10_⟩
 have n0_ : Aside0 (w8.heap[gb338]? = some (.cells #[.string (⟨#[]⟩ : ByteArray), .string (⟨#[]⟩ : ByteArray), .int .i64 0] 35 (0, 0))) := ⟨h0_⟩
 have n1_ : Aside0 (w8.heap[gb343]? = some (.cells #[.int .i64 0, .int .i64 0, .int .i64 0] 81 (0, 0))) := ⟨h1_⟩
 have n2_ : Aside0 (w.heap.size ≤ gb343) := ⟨h2_⟩
 have n3_ : Aside0 (w0.heap.size ≤ gb343) := ⟨h3_⟩
 have n4_ : Aside0 (g ≠ gb343) := ⟨h4_⟩
 have n5_ : Aside0 (gb343 ≠ g) := ⟨h5_⟩
 have n6_ : Aside0 (gb338 ≠ gb343) := ⟨h6_⟩
 have n7_ : Aside0 (gb343 ≠ gb338) := ⟨h7_⟩
 have n8_ : Aside0 (IsS76 w0 w8 g s0_0 s0_1) := ⟨h8_⟩
 have n9_ : Aside0 (KeepBut w w8 g none) := ⟨h9_⟩
 have n10_ : Aside0 (Below w0.heap.size w0 w8) := ⟨h10_⟩
 clear BK338 HI0 HK HB h0_ h1_ h2_ h3_ h4_ h5_ h6_ h7_ h8_ h9_ h10_
 have BK338 := n0_
 have BK343 := n1_
 have GW343 := n2_
 have GE343 := n3_
 have NB0_343 := n4_
 have NB343_0 := n5_
 have NB338_343 := n6_
 have NB343_338 := n7_
 have HI0 := n8_
 have HK := n9_
 have HB := n10_
 clear n0_ n1_ n2_ n3_ n4_ n5_ n6_ n7_ n8_ n9_ n10_
 have hHeld : w8.cell? ⟨g, 0, none⟩ = some (.string s0_0) ∧ w8.cell? ⟨g, 1, none⟩ = some (.int .i64 s0_1) := hS_
 refine norm_ (a' := ?_) ?_ ?_
 rotate_left
 ·simp only [putAll, Act.put, List.setIfInBounds_toArray, List.set_cons_zero, List.set_cons_succ]
  rfl
 refine one_ (i := 13) (N := none) #[true, true, true, true, true, true, true, true, true, true, true, true, true, true, false] rfl rfl (one_of HT_.out (by kernel_rfl)) (by decide) (fun K hK => ?_)
 have hs9 : w8.cell? ⟨gb343, 0, none⟩ = some (.int .i64 0) := (blk_cell BK343.out 0).trans rfl
 have hfs9 := blk_frozen BK343.out 0
 have hns9_0 := NB338_343.out
 have hms9_0 := NB343_338.out
 have hs10 : w8.cell? ⟨gb343, 1, none⟩ = some (.int .i64 0) := (blk_cell BK343.out 1).trans rfl
 have hfs10 := blk_frozen BK343.out 1
 have hns10_0 := NB338_343.out
 have hms10_0 := NB343_338.out
 have hs11 : w8.cell? ⟨gb343, 2, none⟩ = some (.int .i64 0) := (blk_cell BK343.out 2).trans rfl
 have hfs11 := blk_frozen BK343.out 2
 have hns11_0 := NB338_343.out
 have hms11_0 := NB343_338.out
 refine skip_ (w1 := ?_) (by rfl) rfl ?_ ?_
 rotate_left
 ·go_simp
  rfl
 refine hK.out _ _ ⟨((cell_far (p := ⟨gb343, _, none⟩) (by first | exact NB0_343.out | (rw [add_block]; exact NB0_343.out) | (show (Addr.add _ _).block ≠ _; rw [add_block]; exact NB0_343.out) | (dsimp only; exact NB0_343.out)) _).trans (((cell_far (p := ⟨gb343, _, none⟩) (by first | exact NB0_343.out | (rw [add_block]; exact NB0_343.out) | (show (Addr.add _ _).block ≠ _; rw [add_block]; exact NB0_343.out) | (dsimp only; exact NB0_343.out)) _).trans (((cell_far (p := ⟨gb343, _, none⟩) (by first | exact NB0_343.out | (rw [add_block]; exact NB0_343.out) | (show (Addr.add _ _).block ≠ _; rw [add_block]; exact NB0_343.out) | (dsimp only; exact NB0_343.out)) _).trans (hHeld.1)))))), ((cell_far (p := ⟨gb343, _, none⟩) (by first | exact NB0_343.out | (rw [add_block]; exact NB0_343.out) | (show (Addr.add _ _).block ≠ _; rw [add_block]; exact NB0_343.out) | (dsimp only; exact NB0_343.out)) _).trans (((cell_far (p := ⟨gb343, _, none⟩) (by first | exact NB0_343.out | (rw [add_block]; exact NB0_343.out) | (show (Addr.add _ _).block ≠ _; rw [add_block]; exact NB0_343.out) | (dsimp only; exact NB0_343.out)) _).trans (((cell_far (p := ⟨gb343, _, none⟩) (by first | exact NB0_343.out | (rw [add_block]; exact NB0_343.out) | (show (Addr.add _ _).block ≠ _; rw [add_block]; exact NB0_343.out) | (dsimp only; exact NB0_343.out)) _).trans (hHeld.2))))))⟩ (fun hHeld => ?_)
 clear hK K
 refine pure_ (i := 14) (N := some 5) (v := ?_) (a' := ?_) #[true, true, true, true, true, true, true, true, true, true, true, true, true, true, true] rfl rfl (any_of HT_.out (by kernel_rfl)) (fun _ _ _ h => h) (Or.inl ⟨by rfl, ?_⟩) ?_ ?_
 rotate_left
 ·intro w'
  go_simp
  with_reducible rfl
 rotate_left
 ·simp only [Act.put, List.setIfInBounds_toArray, List.set_cons_zero, List.set_cons_succ, i64_w, i32_w]
  rfl
 refine done_ (done_of HT_.out (by kernel_rfl)) ?_
 go_upto_region 2 with (fail)
 go_cut [37] (fun v37 wc => ∃ (kq : Nat) (x37_2 : Bool), v37 = .bool x37_2 ∧ Aside0 (scan_reader_include.j0 kq x37_2 s0_0 s0_1 t339 t340 t341 = some (r1, r2, r3, r4, r5, r6, r7, r8, r9)) ∧ Aside0 (kq ≤ k) ∧ Aside0 (wc.heap[gb338]? = some (.cells #[.string (⟨#[]⟩ : ByteArray), .string (⟨#[]⟩ : ByteArray), .int .i64 0] 35 (0, 0))) ∧ Aside0 (wc.heap[gb343]? = some (.cells #[.int .i64 t339, .int .i64 t340, .int .i64 t341] 81 (0, 0))) ∧ Aside0 (IsS76 w0 wc g s0_0 s0_1) ∧ Aside0 (KeepBut w wc g none) ∧ Aside0 (Below w0.heap.size w0 wc))
 case first =>
  have H := HC3.out
  clear HC3
  by_cases c12 : t342 = 0
  ·rw [if_pos c12] at H
   have c12b0 : (t342 == 0) = true := beq_iff_eq.mpr c12
   have c12b1 : (t342 != 0) = false := bne_eq_false_iff_eq.mpr c12
   clear c12
   (first | rw [c12b0] | (simp only [i64_w, i32_w]; rw [c12b0]) | skip)
   by_cases c13 : t339 = 4
   ·rw [if_pos c13] at H
    have c13b0 : (t339 == 4) = true := beq_iff_eq.mpr c13
    have c13b1 : (t339 != 4) = false := bne_eq_false_iff_eq.mpr c13
    clear c13
    by_cases c14 : 0 ≤ t340
    ·rw [if_pos c14] at H
     have c14b0 := eq_true c14
     have c14b1 : decide (0 ≤ t340) = true := decide_eq_true c14
     clear c14
     by_cases c15 : t340 ≤ t341
     ·rw [if_pos c15] at H
      have c15b0 := eq_true c15
      have c15b1 : decide (t340 ≤ t341) = true := decide_eq_true c15
      clear c15
      by_cases c16 : t341 ≤ (s0_0.size : Int)
      ·rw [if_pos c16] at H
       have c16b0 := eq_true c16
       have c16b1 : decide (t341 ≤ (s0_0.size : Int)) = true := decide_eq_true c16
       clear c16
       have H' := Aside0.mk H
       clear H
       try go_wp2
       have n0_ : Aside0 ((((w8.setCell ⟨gb343, 0, none⟩ (.int .i64 t339)).setCell ⟨gb343, 1, none⟩ (.int .i64 t340)).setCell ⟨gb343, 2, none⟩ (.int .i64 t341)).heap[gb338]? = some (.cells #[.string (⟨#[]⟩ : ByteArray), .string (⟨#[]⟩ : ByteArray), .int .i64 0] 35 (0, 0))) := ⟨by (with_reducible repeat (first | apply bd1 | apply bd2 | apply bd3)); refine blk_far ?_ NB338_343.out _; (with_reducible repeat (first | apply bd1 | apply bd2 | apply bd3)); refine blk_far ?_ NB338_343.out _; (with_reducible repeat (first | apply bd1 | apply bd2 | apply bd3)); refine blk_far ?_ NB338_343.out _; (with_reducible repeat (first | apply bd1 | apply bd2 | apply bd3)); exact BK338.out⟩
       have n1_ : Aside0 ((((w8.setCell ⟨gb343, 0, none⟩ (.int .i64 t339)).setCell ⟨gb343, 1, none⟩ (.int .i64 t340)).setCell ⟨gb343, 2, none⟩ (.int .i64 t341)).heap[gb343]? = some (.cells #[.int .i64 t339, .int .i64 t340, .int .i64 t341] 81 (0, 0))) := ⟨by (with_reducible repeat (first | apply bd1 | apply bd2 | apply bd3)); refine blk_put (cs := #[.int .i64 t339, .int .i64 t340, .int .i64 0]) ?_ 2 _ rfl; (with_reducible repeat (first | apply bd1 | apply bd2 | apply bd3)); refine blk_put (cs := #[.int .i64 t339, .int .i64 0, .int .i64 0]) ?_ 1 _ rfl; (with_reducible repeat (first | apply bd1 | apply bd2 | apply bd3)); refine blk_put (cs := #[.int .i64 0, .int .i64 0, .int .i64 0]) ?_ 0 _ rfl; (with_reducible repeat (first | apply bd1 | apply bd2 | apply bd3)); exact BK343.out⟩
       have n2_ : Aside0 (IsS76 w0 (((w8.setCell ⟨gb343, 0, none⟩ (.int .i64 t339)).setCell ⟨gb343, 1, none⟩ (.int .i64 t340)).setCell ⟨gb343, 2, none⟩ (.int .i64 t341)) g s0_0 s0_1) := ⟨by repeat (first | (with_reducible first | exact HI0.out | apply IsS76.alloc | apply IsS76.drewN | apply IsS76.drew | apply IsS76.set_0 | apply IsS76.set_1 | apply IsS76.far (hne := NB0_338.out) | apply IsS76.far (hne := NB0_343.out)) | exact HI0.out)⟩
       have n3_ : Aside0 (KeepBut w (((w8.setCell ⟨gb343, 0, none⟩ (.int .i64 t339)).setCell ⟨gb343, 1, none⟩ (.int .i64 t340)).setCell ⟨gb343, 2, none⟩ (.int .i64 t341)) g none) := ⟨by repeat (first | (with_reducible first | exact HK.out | apply bk1 | apply bk2 | apply bk3 | apply bk4 | refine keep_far ?_ GW338.out _ | refine keep_far ?_ GW343.out _) | exact HK.out)⟩
       have n4_ : Aside0 (Below w0.heap.size w0 (((w8.setCell ⟨gb343, 0, none⟩ (.int .i64 t339)).setCell ⟨gb343, 1, none⟩ (.int .i64 t340)).setCell ⟨gb343, 2, none⟩ (.int .i64 t341))) := ⟨by repeat (first | (with_reducible first | exact HB.out | apply bw1 | apply bw2 | apply bw3 | refine below_set ?_ (IsS76.ge HI0.out) | refine below_set ?_ GE338.out | refine below_set ?_ GE343.out) | exact HB.out)⟩
       (try clear BK338)
       (try clear BK343)
       (try clear HI0)
       (try clear HK)
       (try clear HB)
       generalize (((w8.setCell ⟨gb343, 0, none⟩ (.int .i64 t339)).setCell ⟨gb343, 1, none⟩ (.int .i64 t340)).setCell ⟨gb343, 2, none⟩ (.int .i64 t341)) = w17 at n0_ n1_ n2_ n3_ n4_ ⊢
       have BK338 := n0_
       have BK343 := n1_
       have HI0 := n2_
       have HK := n3_
       have HB := n4_
       clear n0_ n1_ n2_ n3_ n4_
       have n0_ := Aside0.mk (blk_drew BK338.out)
       have n1_ := Aside0.mk (blk_drew BK343.out)
       have n2_ := Aside0.mk (IsS76.drew HI0.out)
       have n3_ := Aside0.mk (keep_drew HK.out)
       have n4_ := Aside0.mk (below_drew1 HB.out)
       clear BK338 BK343 HI0 HK HB
       have BK338 := n0_
       have BK343 := n1_
       have HI0 := n2_
       have HK := n3_
       have HB := n4_
       clear n0_ n1_ n2_ n3_ n4_
       refine start_ (n := 19) (S := fun w' => w'.cell? ⟨gb343, 0, none⟩ = some (.int .i64 t339) ∧ w'.cell? ⟨gb343, 1, none⟩ = some (.int .i64 t340) ∧ w'.cell? ⟨gb343, 2, none⟩ = some (.int .i64 t341) ∧ w'.cell? ⟨g, 0, none⟩ = some (.string s0_0) ∧ w'.cell? ⟨g, 1, none⟩ = some (.int .i64 s0_1)) (ds := []) #[false, false, false, false, false, false, false, false, false, false, false, false, false, false, false, false, false, false, false] (by kernel_rfl) rfl rfl ⟨(blk_cell BK343.out 0).trans rfl, (blk_cell BK343.out 1).trans rfl, (blk_cell BK343.out 2).trans rfl, (blk_cell HI0.out.1 0).trans rfl, (blk_cell HI0.out.1 1).trans rfl⟩ (fun hHeld => ?_); refine with_tabW scan_reader_include.tab2 scan_reader_include.bits2 (fun HT_ HW_ => ?_)
       generalize w17.drew = w18 at BK338 BK343 HI0 HK HB hHeld ⊢
       refine pure_ (i := 0) (N := some 19) (v := ?_) (a' := ?_) #[true, false, false, false, false, false, false, false, false, false, false, false, false, false, false, false, false, false, false] rfl rfl (any_of HT_.out (by kernel_rfl)) (fun _ _ _ h => h) (Or.inl ⟨by rfl, ?_⟩) ?_ ?_
       rotate_left
       ·intro w'
        go_simp
        with_reducible rfl
       rotate_left
       ·simp only [Act.put, List.setIfInBounds_toArray, List.set_cons_zero, List.set_cons_succ, i64_w, i32_w]
        rfl
       refine pure_ (i := 1) (N := some 20) (v := ?_) (a' := ?_) #[true, true, false, false, false, false, false, false, false, false, false, false, false, false, false, false, false, false, false] rfl rfl (any_of HT_.out (by kernel_rfl)) (fun _ _ _ h => h) (Or.inl ⟨by rfl, ?_⟩) ?_ ?_
       rotate_left
       ·intro w'
        go_simp
        with_reducible rfl
       rotate_left
       ·simp only [Act.put, List.setIfInBounds_toArray, List.set_cons_zero, List.set_cons_succ, i64_w, i32_w]
        rfl
       refine pure_ (i := 2) (N := some 21) (v := ?_) (a' := ?_) #[true, true, true, false, false, false, false, false, false, false, false, false, false, false, false, false, false, false, false] rfl rfl (any_of HT_.out (by kernel_rfl)) (fun _ _ _ h => h) (Or.inl ⟨by rfl, ?_⟩) ?_ ?_
       rotate_left
       ·intro w'
        go_simp
        with_reducible rfl
       rotate_left
       ·simp only [Act.put, List.setIfInBounds_toArray, List.set_cons_zero, List.set_cons_succ, i64_w, i32_w]
        rfl
       refine pure_ (i := 3) (N := some 22) (v := ?_) (a' := ?_) #[true, true, true, true, false, false, false, false, false, false, false, false, false, false, false, false, false, false, false] rfl rfl (any_of HT_.out (by kernel_rfl)) (fun _ _ _ h => h) (Or.inl ⟨by rfl, ?_⟩) ?_ ?_
       rotate_left
       ·intro w'
        go_simp
        with_reducible rfl
       rotate_left
       ·simp only [Act.put, List.setIfInBounds_toArray, List.set_cons_zero, List.set_cons_succ, i64_w, i32_w]
        rfl
       refine take_ (i := 4) (N := some 23) (v := ?_) (a' := ?_) #[true, true, true, true, true, false, false, false, false, false, false, false, false, false, false, false, false, false, false] rfl rfl (take_ofW HT_.out HW_.out (by kernel_rfl)) (fun _ _ _ h => h) (Or.inl ⟨by rfl, ?_⟩) hHeld ?_ ?_
       rotate_left
       ·rintro w' ⟨s0, s1, s2, s3, s4⟩
        go_simp
        with_reducible rfl
       rotate_left
       ·simp only [Act.put, List.setIfInBounds_toArray, List.set_cons_zero, List.set_cons_succ, i64_w, i32_w]
        rfl
       refine pure_ (i := 5) (N := some 24) (v := ?_) (a' := ?_) #[true, true, true, true, true, true, false, false, false, false, false, false, false, false, false, false, false, false, false] rfl rfl (any_of HT_.out (by kernel_rfl)) (fun _ _ _ h => h) (Or.inl ⟨by rfl, ?_⟩) ?_ ?_
       rotate_left
       ·intro w'
        go_simp
        with_reducible rfl
       rotate_left
       ·simp only [Act.put, List.setIfInBounds_toArray, List.set_cons_zero, List.set_cons_succ, i64_w, i32_w]
        rfl
       refine pure_ (i := 6) (N := some 25) (v := ?_) (a' := ?_) #[true, true, true, true, true, true, true, false, false, false, false, false, false, false, false, false, false, false, false] rfl rfl (any_of HT_.out (by kernel_rfl)) (fun _ _ _ h => h) (Or.inl ⟨by rfl, ?_⟩) ?_ ?_
       rotate_left
       ·intro w'
        go_simp
        with_reducible rfl
       rotate_left
       ·simp only [Act.put, List.setIfInBounds_toArray, List.set_cons_zero, List.set_cons_succ, i64_w, i32_w]
        rfl
       refine pure_ (i := 7) (N := some 26) (v := ?_) (a' := ?_) #[true, true, true, true, true, true, true, true, false, false, false, false, false, false, false, false, false, false, false] rfl rfl (any_of HT_.out (by kernel_rfl)) (fun _ _ _ h => h) (Or.inl ⟨by rfl, ?_⟩) ?_ ?_
       rotate_left
       ·intro w'
        go_simp
        with_reducible rfl
       rotate_left
       ·simp only [Act.put, List.setIfInBounds_toArray, List.set_cons_zero, List.set_cons_succ, i64_w, i32_w]
        rfl
       refine pure_ (i := 8) (N := some 27) (v := ?_) (a' := ?_) #[true, true, true, true, true, true, true, true, true, false, false, false, false, false, false, false, false, false, false] rfl rfl (any_of HT_.out (by kernel_rfl)) (fun _ _ _ h => h) (Or.inl ⟨by rfl, ?_⟩) ?_ ?_
       rotate_left
       ·intro w'
        go_simp
        with_reducible rfl
       rotate_left
       ·simp only [Act.put, List.setIfInBounds_toArray, List.set_cons_zero, List.set_cons_succ, i64_w, i32_w]
        rfl
       refine pure_ (i := 9) (N := some 28) (v := ?_) (a' := ?_) #[true, true, true, true, true, true, true, true, true, true, false, false, false, false, false, false, false, false, false] rfl rfl (any_of HT_.out (by kernel_rfl)) (fun _ _ _ h => h) (Or.inl ⟨by rfl, ?_⟩) ?_ ?_
       rotate_left
       ·intro w'
        go_simp
        with_reducible rfl
       rotate_left
       ·simp only [Act.put, List.setIfInBounds_toArray, List.set_cons_zero, List.set_cons_succ, i64_w, i32_w]
        rfl
       refine pure_ (i := 10) (N := some 29) (v := ?_) (a' := ?_) #[true, true, true, true, true, true, true, true, true, true, true, false, false, false, false, false, false, false, false] rfl rfl (any_of HT_.out (by kernel_rfl)) (fun _ _ _ h => h) (Or.inl ⟨by rfl, ?_⟩) ?_ ?_
       rotate_left
       ·intro w'
        go_simp
        with_reducible rfl
       rotate_left
       ·simp only [Act.put, List.setIfInBounds_toArray, List.set_cons_zero, List.set_cons_succ, i64_w, i32_w]
        rfl
       refine pure_ (i := 12) (N := some 31) (v := ?_) (a' := ?_) #[true, true, true, true, true, true, true, true, true, true, true, false, true, false, false, false, false, false, false] rfl rfl (any_of HT_.out (by kernel_rfl)) (fun _ _ _ h => h) (Or.inl ⟨by rfl, ?_⟩) ?_ ?_
       rotate_left
       ·intro w'
        go_simp
        with_reducible rfl
       rotate_left
       ·simp only [Act.put, List.setIfInBounds_toArray, List.set_cons_zero, List.set_cons_succ, i64_w, i32_w]
        rfl
       refine pure_ (i := 14) (N := some 33) (v := ?_) (a' := ?_) #[true, true, true, true, true, true, true, true, true, true, true, false, true, false, true, false, false, false, false] rfl rfl (any_of HT_.out (by kernel_rfl)) (fun _ _ _ h => h) (Or.inl ⟨by rfl, ?_⟩) ?_ ?_
       rotate_left
       ·intro w'
        go_simp
        with_reducible rfl
       rotate_left
       ·simp only [Act.put, List.setIfInBounds_toArray, List.set_cons_zero, List.set_cons_succ, i64_w, i32_w]
        rfl
       refine take_ (i := 11) (N := some 30) (v := ?_) (a' := ?_) #[true, true, true, true, true, true, true, true, true, true, true, true, true, false, true, false, false, false, false] rfl rfl (take_ofW HT_.out HW_.out (by kernel_rfl)) (fun _ _ _ h => h) (Or.inl ⟨by rfl, ?_⟩) hHeld ?_ ?_
       rotate_left
       ·rintro w' ⟨s0, s1, s2, s3, s4⟩
        go_simp
        with_reducible rfl
       rotate_left
       ·simp only [Act.put, List.setIfInBounds_toArray, List.set_cons_zero, List.set_cons_succ, i64_w, i32_w]
        rfl
       refine take_ (i := 13) (N := some 32) (v := ?_) (a' := ?_) #[true, true, true, true, true, true, true, true, true, true, true, true, true, true, true, false, false, false, false] rfl rfl (take_ofW HT_.out HW_.out (by kernel_rfl)) (fun _ _ _ h => h) (Or.inl ⟨by rfl, ?_⟩) hHeld ?_ ?_
       rotate_left
       ·rintro w' ⟨s0, s1, s2, s3, s4⟩
        go_simp
        with_reducible rfl
       rotate_left
       ·simp only [Act.put, List.setIfInBounds_toArray, List.set_cons_zero, List.set_cons_succ, i64_w, i32_w]
        rfl
       refine take_ (i := 15) (N := some 34) (v := ?_) (a' := ?_) #[true, true, true, true, true, true, true, true, true, true, true, true, true, true, true, true, false, false, false] rfl rfl (take_ofW HT_.out HW_.out (by kernel_rfl)) (fun _ _ _ h => h) (Or.inl ⟨by rfl, ?_⟩) hHeld ?_ ?_
       rotate_left
       ·rintro w' ⟨s0, s1, s2, s3, s4⟩
        go_simp
        with_reducible rfl
       rotate_left
       ·simp only [Act.put, List.setIfInBounds_toArray, List.set_cons_zero, List.set_cons_succ, i64_w, i32_w]
        rfl
       refine pure_ (i := 16) (N := some 35) (v := ?_) (a' := ?_) #[true, true, true, true, true, true, true, true, true, true, true, true, true, true, true, true, true, false, false] rfl rfl (any_of HT_.out (by kernel_rfl)) (fun _ _ _ h => h) (Or.inl ⟨by rfl, ?_⟩) ?_ ?_
       rotate_left
       ·intro w'
        go_simp
        with_reducible rfl
       rotate_left
       ·simp only [Act.put, List.setIfInBounds_toArray, List.set_cons_zero, List.set_cons_succ, i64_w, i32_w]
        rfl
       refine pure_ (i := 17) (N := some 36) (v := ?_) (a' := ?_) #[true, true, true, true, true, true, true, true, true, true, true, true, true, true, true, true, true, true, false] rfl rfl (any_of HT_.out (by kernel_rfl)) (fun _ _ _ h => h) (Or.inl ⟨by rfl, ?_⟩) ?_ ?_
       rotate_left
       ·intro w'
        go_simp
        with_reducible rfl
       rotate_left
       ·simp only [Act.put, List.setIfInBounds_toArray, List.set_cons_zero, List.set_cons_succ, i64_w, i32_w]
        rfl
       refine pure_ (i := 18) (N := some 37) (v := ?_) (a' := ?_) #[true, true, true, true, true, true, true, true, true, true, true, true, true, true, true, true, true, true, true] rfl rfl (any_of HT_.out (by kernel_rfl)) (fun _ _ _ h => h) (Or.inl ⟨by rfl, ?_⟩) ?_ ?_
       rotate_left
       ·intro w'
        go_simp
        with_reducible rfl
       rotate_left
       ·simp only [Act.put, List.setIfInBounds_toArray, List.set_cons_zero, List.set_cons_succ, i64_w, i32_w]
        rfl
       refine done_ (done_of HT_.out (by kernel_rfl)) ?_
       try go_wp2
       go_meet
       case rel => exact ⟨_, (((s0_0.extract (t340 : Int).toNat (t341 : Int).toNat).toList != ([105, 110, 99, 108, 117, 100, 101] : List UInt8))), (by first | rfl | (simp; done) | (simp [*]; done)), H', ⟨by first | omega | exact Nat.le_refl _⟩, ⟨by (with_reducible repeat (first | apply bd1 | apply bd2 | apply bd3)); exact BK338.out⟩, ⟨by (with_reducible repeat (first | apply bd1 | apply bd2 | apply bd3)); exact BK343.out⟩, ⟨by repeat (first | (with_reducible first | exact HI0.out | apply IsS76.alloc | apply IsS76.drewN | apply IsS76.drew | apply IsS76.set_0 | apply IsS76.set_1 | apply IsS76.far (hne := NB0_338.out) | apply IsS76.far (hne := NB0_343.out)) | exact HI0.out)⟩, ⟨by repeat (first | (with_reducible first | exact HK.out | apply bk1 | apply bk2 | apply bk3 | apply bk4 | refine keep_far ?_ GW338.out _ | refine keep_far ?_ GW343.out _) | exact HK.out)⟩, ⟨by repeat (first | (with_reducible first | exact HB.out | apply bw1 | apply bw2 | apply bw3 | refine below_set ?_ (IsS76.ge HI0.out) | refine below_set ?_ GE338.out | refine below_set ?_ GE343.out) | exact HB.out)⟩⟩
      ·rw [if_neg c16] at H
       exact absurd H (by simp)
     ·rw [if_neg c15] at H
      exact absurd H (by simp)
    ·rw [if_neg c14] at H
     exact absurd H (by simp)
   ·rw [if_neg c13] at H
    have c13b0 : (t339 == 4) = false := beq_eq_false_iff_ne.mpr c13
    have c13b1 : (t339 != 4) = true := bne_iff_ne.mpr c13
    have H' := Aside0.mk H
    clear H
    try go_wp2
    have n0_ : Aside0 ((((w8.setCell ⟨gb343, 0, none⟩ (.int .i64 t339)).setCell ⟨gb343, 1, none⟩ (.int .i64 t340)).setCell ⟨gb343, 2, none⟩ (.int .i64 t341)).heap[gb338]? = some (.cells #[.string (⟨#[]⟩ : ByteArray), .string (⟨#[]⟩ : ByteArray), .int .i64 0] 35 (0, 0))) := ⟨by (with_reducible repeat (first | apply bd1 | apply bd2 | apply bd3)); refine blk_far ?_ NB338_343.out _; (with_reducible repeat (first | apply bd1 | apply bd2 | apply bd3)); refine blk_far ?_ NB338_343.out _; (with_reducible repeat (first | apply bd1 | apply bd2 | apply bd3)); refine blk_far ?_ NB338_343.out _; (with_reducible repeat (first | apply bd1 | apply bd2 | apply bd3)); exact BK338.out⟩
    have n1_ : Aside0 ((((w8.setCell ⟨gb343, 0, none⟩ (.int .i64 t339)).setCell ⟨gb343, 1, none⟩ (.int .i64 t340)).setCell ⟨gb343, 2, none⟩ (.int .i64 t341)).heap[gb343]? = some (.cells #[.int .i64 t339, .int .i64 t340, .int .i64 t341] 81 (0, 0))) := ⟨by (with_reducible repeat (first | apply bd1 | apply bd2 | apply bd3)); refine blk_put (cs := #[.int .i64 t339, .int .i64 t340, .int .i64 0]) ?_ 2 _ rfl; (with_reducible repeat (first | apply bd1 | apply bd2 | apply bd3)); refine blk_put (cs := #[.int .i64 t339, .int .i64 0, .int .i64 0]) ?_ 1 _ rfl; (with_reducible repeat (first | apply bd1 | apply bd2 | apply bd3)); refine blk_put (cs := #[.int .i64 0, .int .i64 0, .int .i64 0]) ?_ 0 _ rfl; (with_reducible repeat (first | apply bd1 | apply bd2 | apply bd3)); exact BK343.out⟩
    have n2_ : Aside0 (IsS76 w0 (((w8.setCell ⟨gb343, 0, none⟩ (.int .i64 t339)).setCell ⟨gb343, 1, none⟩ (.int .i64 t340)).setCell ⟨gb343, 2, none⟩ (.int .i64 t341)) g s0_0 s0_1) := ⟨by repeat (first | (with_reducible first | exact HI0.out | apply IsS76.alloc | apply IsS76.drewN | apply IsS76.drew | apply IsS76.set_0 | apply IsS76.set_1 | apply IsS76.far (hne := NB0_338.out) | apply IsS76.far (hne := NB0_343.out)) | exact HI0.out)⟩
    have n3_ : Aside0 (KeepBut w (((w8.setCell ⟨gb343, 0, none⟩ (.int .i64 t339)).setCell ⟨gb343, 1, none⟩ (.int .i64 t340)).setCell ⟨gb343, 2, none⟩ (.int .i64 t341)) g none) := ⟨by repeat (first | (with_reducible first | exact HK.out | apply bk1 | apply bk2 | apply bk3 | apply bk4 | refine keep_far ?_ GW338.out _ | refine keep_far ?_ GW343.out _) | exact HK.out)⟩
    have n4_ : Aside0 (Below w0.heap.size w0 (((w8.setCell ⟨gb343, 0, none⟩ (.int .i64 t339)).setCell ⟨gb343, 1, none⟩ (.int .i64 t340)).setCell ⟨gb343, 2, none⟩ (.int .i64 t341))) := ⟨by repeat (first | (with_reducible first | exact HB.out | apply bw1 | apply bw2 | apply bw3 | refine below_set ?_ (IsS76.ge HI0.out) | refine below_set ?_ GE338.out | refine below_set ?_ GE343.out) | exact HB.out)⟩
    (try clear BK338)
    (try clear BK343)
    (try clear HI0)
    (try clear HK)
    (try clear HB)
    generalize (((w8.setCell ⟨gb343, 0, none⟩ (.int .i64 t339)).setCell ⟨gb343, 1, none⟩ (.int .i64 t340)).setCell ⟨gb343, 2, none⟩ (.int .i64 t341)) = w19 at n0_ n1_ n2_ n3_ n4_ ⊢
    have BK338 := n0_
    have BK343 := n1_
    have HI0 := n2_
    have HK := n3_
    have HB := n4_
    clear n0_ n1_ n2_ n3_ n4_
    have n0_ := Aside0.mk (blk_drew BK338.out)
    have n1_ := Aside0.mk (blk_drew BK343.out)
    have n2_ := Aside0.mk (IsS76.drew HI0.out)
    have n3_ := Aside0.mk (keep_drew HK.out)
    have n4_ := Aside0.mk (below_drew1 HB.out)
    clear BK338 BK343 HI0 HK HB
    have BK338 := n0_
    have BK343 := n1_
    have HI0 := n2_
    have HK := n3_
    have HB := n4_
    clear n0_ n1_ n2_ n3_ n4_
    refine start_ (n := 19) (S := fun w' => w'.cell? ⟨gb343, 0, none⟩ = some (.int .i64 t339) ∧ w'.cell? ⟨gb343, 1, none⟩ = some (.int .i64 t340) ∧ w'.cell? ⟨gb343, 2, none⟩ = some (.int .i64 t341)) (ds := []) #[false, false, false, false, false, false, false, false, false, false, false, false, false, false, false, false, false, false, false] (by kernel_rfl) rfl rfl ⟨(blk_cell BK343.out 0).trans rfl, (blk_cell BK343.out 1).trans rfl, (blk_cell BK343.out 2).trans rfl⟩ (fun hHeld => ?_); refine with_tabW scan_reader_include.tab2 scan_reader_include.bits2 (fun HT_ HW_ => ?_)
    generalize w19.drew = w20 at BK338 BK343 HI0 HK HB hHeld ⊢
    refine pure_ (i := 0) (N := some 19) (v := ?_) (a' := ?_) #[true, false, false, false, false, false, false, false, false, false, false, false, false, false, false, false, false, false, false] rfl rfl (any_of HT_.out (by kernel_rfl)) (fun _ _ _ h => h) (Or.inl ⟨by rfl, ?_⟩) ?_ ?_
    rotate_left
    ·intro w'
     go_simp
     with_reducible rfl
    rotate_left
    ·simp only [Act.put, List.setIfInBounds_toArray, List.set_cons_zero, List.set_cons_succ, i64_w, i32_w]
     rfl
    refine pure_ (i := 1) (N := some 20) (v := ?_) (a' := ?_) #[true, true, false, false, false, false, false, false, false, false, false, false, false, false, false, false, false, false, false] rfl rfl (any_of HT_.out (by kernel_rfl)) (fun _ _ _ h => h) (Or.inl ⟨by rfl, ?_⟩) ?_ ?_
    rotate_left
    ·intro w'
     go_simp
     with_reducible rfl
    rotate_left
    ·simp only [Act.put, List.setIfInBounds_toArray, List.set_cons_zero, List.set_cons_succ, i64_w, i32_w]
     rfl
    refine pure_ (i := 2) (N := some 21) (v := ?_) (a' := ?_) #[true, true, true, false, false, false, false, false, false, false, false, false, false, false, false, false, false, false, false] rfl rfl (any_of HT_.out (by kernel_rfl)) (fun _ _ _ h => h) (Or.inl ⟨by rfl, ?_⟩) ?_ ?_
    rotate_left
    ·intro w'
     go_simp
     with_reducible rfl
    rotate_left
    ·simp only [Act.put, List.setIfInBounds_toArray, List.set_cons_zero, List.set_cons_succ, i64_w, i32_w]
     rfl
    refine pure_ (i := 3) (N := some 22) (v := ?_) (a' := ?_) #[true, true, true, true, false, false, false, false, false, false, false, false, false, false, false, false, false, false, false] rfl rfl (any_of HT_.out (by kernel_rfl)) (fun _ _ _ h => h) (Or.inl ⟨by rfl, ?_⟩) ?_ ?_
    rotate_left
    ·intro w'
     go_simp
     with_reducible rfl
    rotate_left
    ·simp only [Act.put, List.setIfInBounds_toArray, List.set_cons_zero, List.set_cons_succ, i64_w, i32_w]
     rfl
    refine take_ (i := 4) (N := some 23) (v := ?_) (a' := ?_) #[true, true, true, true, true, false, false, false, false, false, false, false, false, false, false, false, false, false, false] rfl rfl (take_ofW HT_.out HW_.out (by kernel_rfl)) (fun _ _ _ h => h) (Or.inl ⟨by rfl, ?_⟩) hHeld ?_ ?_
    rotate_left
    ·rintro w' ⟨s0, s1, s2⟩
     go_simp
     with_reducible rfl
    rotate_left
    ·simp only [Act.put, List.setIfInBounds_toArray, List.set_cons_zero, List.set_cons_succ, i64_w, i32_w]
     rfl
    refine pure_ (i := 5) (N := some 24) (v := ?_) (a' := ?_) #[true, true, true, true, true, true, false, false, false, false, false, false, false, false, false, false, false, false, false] rfl rfl (any_of HT_.out (by kernel_rfl)) (fun _ _ _ h => h) (Or.inl ⟨by rfl, ?_⟩) ?_ ?_
    rotate_left
    ·intro w'
     go_simp
     with_reducible rfl
    rotate_left
    ·simp only [Act.put, List.setIfInBounds_toArray, List.set_cons_zero, List.set_cons_succ, i64_w, i32_w]
     rfl
    refine pure_ (i := 6) (N := some 25) (v := ?_) (a' := ?_) #[true, true, true, true, true, true, true, false, false, false, false, false, false, false, false, false, false, false, false] rfl rfl (any_of HT_.out (by kernel_rfl)) (fun _ _ _ h => h) (Or.inl ⟨by rfl, ?_⟩) ?_ ?_
    rotate_left
    ·intro w'
     go_simp
     with_reducible rfl
    rotate_left
    ·simp only [Act.put, List.setIfInBounds_toArray, List.set_cons_zero, List.set_cons_succ, i64_w, i32_w]
     rfl
    refine pure_ (i := 7) (N := some 26) (v := ?_) (a' := ?_) #[true, true, true, true, true, true, true, true, false, false, false, false, false, false, false, false, false, false, false] rfl rfl (any_of HT_.out (by kernel_rfl)) (fun _ _ _ h => h) (Or.inl ⟨by rfl, ?_⟩) ?_ ?_
    rotate_left
    ·intro w'
     go_simp
     with_reducible rfl
    rotate_left
    ·simp only [Act.put, List.setIfInBounds_toArray, List.set_cons_zero, List.set_cons_succ, i64_w, i32_w]
     rfl
    refine pure_ (i := 8) (N := some 27) (v := undef) (a' := ?_) #[true, true, true, true, true, true, true, true, true, false, false, false, false, false, false, false, false, false, false] rfl rfl (any_of HT_.out (by kernel_rfl)) (fun _ _ _ h => h) (Or.inr ⟨by rfl, rfl⟩) ?_ ?_
    rotate_left
    ·simp only [Act.put, List.setIfInBounds_toArray, List.set_cons_zero, List.set_cons_succ, i64_w, i32_w]
     rfl
    refine pure_ (i := 9) (N := some 28) (v := undef) (a' := ?_) #[true, true, true, true, true, true, true, true, true, true, false, false, false, false, false, false, false, false, false] rfl rfl (any_of HT_.out (by kernel_rfl)) (fun _ _ _ h => h) (Or.inr ⟨by rfl, rfl⟩) ?_ ?_
    rotate_left
    ·simp only [Act.put, List.setIfInBounds_toArray, List.set_cons_zero, List.set_cons_succ, i64_w, i32_w]
     rfl
    refine pure_ (i := 10) (N := some 29) (v := undef) (a' := ?_) #[true, true, true, true, true, true, true, true, true, true, true, false, false, false, false, false, false, false, false] rfl rfl (any_of HT_.out (by kernel_rfl)) (fun _ _ _ h => h) (Or.inr ⟨by rfl, rfl⟩) ?_ ?_
    rotate_left
    ·simp only [Act.put, List.setIfInBounds_toArray, List.set_cons_zero, List.set_cons_succ, i64_w, i32_w]
     rfl
    refine pure_ (i := 11) (N := some 30) (v := undef) (a' := ?_) #[true, true, true, true, true, true, true, true, true, true, true, true, false, false, false, false, false, false, false] rfl rfl (any_of HT_.out (by kernel_rfl)) (fun _ _ _ h => h) (Or.inr ⟨by rfl, rfl⟩) ?_ ?_
    rotate_left
    ·simp only [Act.put, List.setIfInBounds_toArray, List.set_cons_zero, List.set_cons_succ, i64_w, i32_w]
     rfl
    refine pure_ (i := 12) (N := some 31) (v := undef) (a' := ?_) #[true, true, true, true, true, true, true, true, true, true, true, true, true, false, false, false, false, false, false] rfl rfl (any_of HT_.out (by kernel_rfl)) (fun _ _ _ h => h) (Or.inr ⟨by rfl, rfl⟩) ?_ ?_
    rotate_left
    ·simp only [Act.put, List.setIfInBounds_toArray, List.set_cons_zero, List.set_cons_succ, i64_w, i32_w]
     rfl
    refine pure_ (i := 13) (N := some 32) (v := undef) (a' := ?_) #[true, true, true, true, true, true, true, true, true, true, true, true, true, true, false, false, false, false, false] rfl rfl (any_of HT_.out (by kernel_rfl)) (fun _ _ _ h => h) (Or.inr ⟨by rfl, rfl⟩) ?_ ?_
    rotate_left
    ·simp only [Act.put, List.setIfInBounds_toArray, List.set_cons_zero, List.set_cons_succ, i64_w, i32_w]
     rfl
    refine pure_ (i := 14) (N := some 33) (v := undef) (a' := ?_) #[true, true, true, true, true, true, true, true, true, true, true, true, true, true, true, false, false, false, false] rfl rfl (any_of HT_.out (by kernel_rfl)) (fun _ _ _ h => h) (Or.inr ⟨by rfl, rfl⟩) ?_ ?_
    rotate_left
    ·simp only [Act.put, List.setIfInBounds_toArray, List.set_cons_zero, List.set_cons_succ, i64_w, i32_w]
     rfl
    refine pure_ (i := 15) (N := some 34) (v := undef) (a' := ?_) #[true, true, true, true, true, true, true, true, true, true, true, true, true, true, true, true, false, false, false] rfl rfl (any_of HT_.out (by kernel_rfl)) (fun _ _ _ h => h) (Or.inr ⟨by rfl, rfl⟩) ?_ ?_
    rotate_left
    ·simp only [Act.put, List.setIfInBounds_toArray, List.set_cons_zero, List.set_cons_succ, i64_w, i32_w]
     rfl
    refine pure_ (i := 16) (N := some 35) (v := undef) (a' := ?_) #[true, true, true, true, true, true, true, true, true, true, true, true, true, true, true, true, true, false, false] rfl rfl (any_of HT_.out (by kernel_rfl)) (fun _ _ _ h => h) (Or.inr ⟨by rfl, rfl⟩) ?_ ?_
    rotate_left
    ·simp only [Act.put, List.setIfInBounds_toArray, List.set_cons_zero, List.set_cons_succ, i64_w, i32_w]
     rfl
    refine pure_ (i := 17) (N := some 36) (v := undef) (a' := ?_) #[true, true, true, true, true, true, true, true, true, true, true, true, true, true, true, true, true, true, false] rfl rfl (any_of HT_.out (by kernel_rfl)) (fun _ _ _ h => h) (Or.inr ⟨by rfl, rfl⟩) ?_ ?_
    rotate_left
    ·simp only [Act.put, List.setIfInBounds_toArray, List.set_cons_zero, List.set_cons_succ, i64_w, i32_w]
     rfl
    refine pure_ (i := 18) (N := some 37) (v := ?_) (a' := ?_) #[true, true, true, true, true, true, true, true, true, true, true, true, true, true, true, true, true, true, true] rfl rfl (any_of HT_.out (by kernel_rfl)) (fun _ _ _ h => h) (Or.inl ⟨by rfl, ?_⟩) ?_ ?_
    rotate_left
    ·intro w'
     go_simp
     with_reducible rfl
    rotate_left
    ·simp only [Act.put, List.setIfInBounds_toArray, List.set_cons_zero, List.set_cons_succ, i64_w, i32_w]
     rfl
    refine done_ (done_of HT_.out (by kernel_rfl)) ?_
    try go_wp2
    go_meet
    case rel => exact ⟨_, (true), (by first | rfl | (simp; done) | (simp [*]; done)), H', ⟨by first | omega | exact Nat.le_refl _⟩, ⟨by (with_reducible repeat (first | apply bd1 | apply bd2 | apply bd3)); exact BK338.out⟩, ⟨by (with_reducible repeat (first | apply bd1 | apply bd2 | apply bd3)); exact BK343.out⟩, ⟨by repeat (first | (with_reducible first | exact HI0.out | apply IsS76.alloc | apply IsS76.drewN | apply IsS76.drew | apply IsS76.set_0 | apply IsS76.set_1 | apply IsS76.far (hne := NB0_338.out) | apply IsS76.far (hne := NB0_343.out)) | exact HI0.out)⟩, ⟨by repeat (first | (with_reducible first | exact HK.out | apply bk1 | apply bk2 | apply bk3 | apply bk4 | refine keep_far ?_ GW338.out _ | refine keep_far ?_ GW343.out _) | exact HK.out)⟩, ⟨by repeat (first | (with_reducible first | exact HB.out | apply bw1 | apply bw2 | apply bw3 | refine below_set ?_ (IsS76.ge HI0.out) | refine below_set ?_ GE338.out | refine below_set ?_ GE343.out) | exact HB.out)⟩⟩
  ·rw [if_neg c12] at H
   have c12b0 : (t342 == 0) = false := beq_eq_false_iff_ne.mpr c12
   have c12b1 : (t342 != 0) = true := bne_iff_ne.mpr c12
   (first | rw [c12b0] | (simp only [i64_w, i32_w]; rw [c12b0]) | skip)
   have H' := Aside0.mk H
   clear H
   try go_wp2
   have n0_ : Aside0 ((((w8.setCell ⟨gb343, 0, none⟩ (.int .i64 t339)).setCell ⟨gb343, 1, none⟩ (.int .i64 t340)).setCell ⟨gb343, 2, none⟩ (.int .i64 t341)).heap[gb338]? = some (.cells #[.string (⟨#[]⟩ : ByteArray), .string (⟨#[]⟩ : ByteArray), .int .i64 0] 35 (0, 0))) := ⟨by (with_reducible repeat (first | apply bd1 | apply bd2 | apply bd3)); refine blk_far ?_ NB338_343.out _; (with_reducible repeat (first | apply bd1 | apply bd2 | apply bd3)); refine blk_far ?_ NB338_343.out _; (with_reducible repeat (first | apply bd1 | apply bd2 | apply bd3)); refine blk_far ?_ NB338_343.out _; (with_reducible repeat (first | apply bd1 | apply bd2 | apply bd3)); exact BK338.out⟩
   have n1_ : Aside0 ((((w8.setCell ⟨gb343, 0, none⟩ (.int .i64 t339)).setCell ⟨gb343, 1, none⟩ (.int .i64 t340)).setCell ⟨gb343, 2, none⟩ (.int .i64 t341)).heap[gb343]? = some (.cells #[.int .i64 t339, .int .i64 t340, .int .i64 t341] 81 (0, 0))) := ⟨by (with_reducible repeat (first | apply bd1 | apply bd2 | apply bd3)); refine blk_put (cs := #[.int .i64 t339, .int .i64 t340, .int .i64 0]) ?_ 2 _ rfl; (with_reducible repeat (first | apply bd1 | apply bd2 | apply bd3)); refine blk_put (cs := #[.int .i64 t339, .int .i64 0, .int .i64 0]) ?_ 1 _ rfl; (with_reducible repeat (first | apply bd1 | apply bd2 | apply bd3)); refine blk_put (cs := #[.int .i64 0, .int .i64 0, .int .i64 0]) ?_ 0 _ rfl; (with_reducible repeat (first | apply bd1 | apply bd2 | apply bd3)); exact BK343.out⟩
   have n2_ : Aside0 (IsS76 w0 (((w8.setCell ⟨gb343, 0, none⟩ (.int .i64 t339)).setCell ⟨gb343, 1, none⟩ (.int .i64 t340)).setCell ⟨gb343, 2, none⟩ (.int .i64 t341)) g s0_0 s0_1) := ⟨by repeat (first | (with_reducible first | exact HI0.out | apply IsS76.alloc | apply IsS76.drewN | apply IsS76.drew | apply IsS76.set_0 | apply IsS76.set_1 | apply IsS76.far (hne := NB0_338.out) | apply IsS76.far (hne := NB0_343.out)) | exact HI0.out)⟩
   have n3_ : Aside0 (KeepBut w (((w8.setCell ⟨gb343, 0, none⟩ (.int .i64 t339)).setCell ⟨gb343, 1, none⟩ (.int .i64 t340)).setCell ⟨gb343, 2, none⟩ (.int .i64 t341)) g none) := ⟨by repeat (first | (with_reducible first | exact HK.out | apply bk1 | apply bk2 | apply bk3 | apply bk4 | refine keep_far ?_ GW338.out _ | refine keep_far ?_ GW343.out _) | exact HK.out)⟩
   have n4_ : Aside0 (Below w0.heap.size w0 (((w8.setCell ⟨gb343, 0, none⟩ (.int .i64 t339)).setCell ⟨gb343, 1, none⟩ (.int .i64 t340)).setCell ⟨gb343, 2, none⟩ (.int .i64 t341))) := ⟨by repeat (first | (with_reducible first | exact HB.out | apply bw1 | apply bw2 | apply bw3 | refine below_set ?_ (IsS76.ge HI0.out) | refine below_set ?_ GE338.out | refine below_set ?_ GE343.out) | exact HB.out)⟩
   (try clear BK338)
   (try clear BK343)
   (try clear HI0)
   (try clear HK)
   (try clear HB)
   generalize (((w8.setCell ⟨gb343, 0, none⟩ (.int .i64 t339)).setCell ⟨gb343, 1, none⟩ (.int .i64 t340)).setCell ⟨gb343, 2, none⟩ (.int .i64 t341)) = w21 at n0_ n1_ n2_ n3_ n4_ ⊢
   have BK338 := n0_
   have BK343 := n1_
   have HI0 := n2_
   have HK := n3_
   have HB := n4_
   clear n0_ n1_ n2_ n3_ n4_
   have n0_ := Aside0.mk (blk_drew BK338.out)
   have n1_ := Aside0.mk (blk_drew BK343.out)
   have n2_ := Aside0.mk (IsS76.drew HI0.out)
   have n3_ := Aside0.mk (keep_drew HK.out)
   have n4_ := Aside0.mk (below_drew1 HB.out)
   clear BK338 BK343 HI0 HK HB
   have BK338 := n0_
   have BK343 := n1_
   have HI0 := n2_
   have HK := n3_
   have HB := n4_
   clear n0_ n1_ n2_ n3_ n4_
   refine start_ (n := 19) (S := fun w' => True) (ds := []) #[false, false, false, false, false, false, false, false, false, false, false, false, false, false, false, false, false, false, false] (by kernel_rfl) rfl rfl trivial (fun hHeld => ?_); refine with_tabW scan_reader_include.tab2 scan_reader_include.bits2 (fun HT_ HW_ => ?_)
   generalize w21.drew = w22 at BK338 BK343 HI0 HK HB hHeld ⊢
   refine pure_ (i := 0) (N := some 19) (v := ?_) (a' := ?_) #[true, false, false, false, false, false, false, false, false, false, false, false, false, false, false, false, false, false, false] rfl rfl (any_of HT_.out (by kernel_rfl)) (fun _ _ _ h => h) (Or.inl ⟨by rfl, ?_⟩) ?_ ?_
   rotate_left
   ·intro w'
    go_simp
    with_reducible rfl
   rotate_left
   ·simp only [Act.put, List.setIfInBounds_toArray, List.set_cons_zero, List.set_cons_succ, i64_w, i32_w]
    rfl
   refine pure_ (i := 1) (N := some 20) (v := ?_) (a' := ?_) #[true, true, false, false, false, false, false, false, false, false, false, false, false, false, false, false, false, false, false] rfl rfl (any_of HT_.out (by kernel_rfl)) (fun _ _ _ h => h) (Or.inl ⟨by rfl, ?_⟩) ?_ ?_
   rotate_left
   ·intro w'
    go_simp
    with_reducible rfl
   rotate_left
   ·simp only [Act.put, List.setIfInBounds_toArray, List.set_cons_zero, List.set_cons_succ, i64_w, i32_w]
    rfl
   refine pure_ (i := 2) (N := some 21) (v := ?_) (a' := ?_) #[true, true, true, false, false, false, false, false, false, false, false, false, false, false, false, false, false, false, false] rfl rfl (any_of HT_.out (by kernel_rfl)) (fun _ _ _ h => h) (Or.inl ⟨by rfl, ?_⟩) ?_ ?_
   rotate_left
   ·intro w'
    go_simp
    with_reducible rfl
   rotate_left
   ·simp only [Act.put, List.setIfInBounds_toArray, List.set_cons_zero, List.set_cons_succ, i64_w, i32_w]
    rfl
   refine pure_ (i := 3) (N := some 22) (v := undef) (a' := ?_) #[true, true, true, true, false, false, false, false, false, false, false, false, false, false, false, false, false, false, false] rfl rfl (any_of HT_.out (by kernel_rfl)) (fun _ _ _ h => h) (Or.inr ⟨by rfl, rfl⟩) ?_ ?_
   rotate_left
   ·simp only [Act.put, List.setIfInBounds_toArray, List.set_cons_zero, List.set_cons_succ, i64_w, i32_w]
    rfl
   refine pure_ (i := 4) (N := some 23) (v := undef) (a' := ?_) #[true, true, true, true, true, false, false, false, false, false, false, false, false, false, false, false, false, false, false] rfl rfl (any_of HT_.out (by kernel_rfl)) (fun _ _ _ h => h) (Or.inr ⟨by rfl, rfl⟩) ?_ ?_
   rotate_left
   ·simp only [Act.put, List.setIfInBounds_toArray, List.set_cons_zero, List.set_cons_succ, i64_w, i32_w]
    rfl
   refine pure_ (i := 5) (N := some 24) (v := undef) (a' := ?_) #[true, true, true, true, true, true, false, false, false, false, false, false, false, false, false, false, false, false, false] rfl rfl (any_of HT_.out (by kernel_rfl)) (fun _ _ _ h => h) (Or.inr ⟨by rfl, rfl⟩) ?_ ?_
   rotate_left
   ·simp only [Act.put, List.setIfInBounds_toArray, List.set_cons_zero, List.set_cons_succ, i64_w, i32_w]
    rfl
   refine pure_ (i := 6) (N := some 25) (v := ?_) (a' := ?_) #[true, true, true, true, true, true, true, false, false, false, false, false, false, false, false, false, false, false, false] rfl rfl (any_of HT_.out (by kernel_rfl)) (fun _ _ _ h => h) (Or.inl ⟨by rfl, ?_⟩) ?_ ?_
   rotate_left
   ·intro w'
    go_simp
    with_reducible rfl
   rotate_left
   ·simp only [Act.put, List.setIfInBounds_toArray, List.set_cons_zero, List.set_cons_succ, i64_w, i32_w]
    rfl
   refine pure_ (i := 7) (N := some 26) (v := ?_) (a' := ?_) #[true, true, true, true, true, true, true, true, false, false, false, false, false, false, false, false, false, false, false] rfl rfl (any_of HT_.out (by kernel_rfl)) (fun _ _ _ h => h) (Or.inl ⟨by rfl, ?_⟩) ?_ ?_
   rotate_left
   ·intro w'
    go_simp
    with_reducible rfl
   rotate_left
   ·simp only [Act.put, List.setIfInBounds_toArray, List.set_cons_zero, List.set_cons_succ, i64_w, i32_w]
    rfl
   refine pure_ (i := 8) (N := some 27) (v := undef) (a' := ?_) #[true, true, true, true, true, true, true, true, true, false, false, false, false, false, false, false, false, false, false] rfl rfl (any_of HT_.out (by kernel_rfl)) (fun _ _ _ h => h) (Or.inr ⟨by rfl, rfl⟩) ?_ ?_
   rotate_left
   ·simp only [Act.put, List.setIfInBounds_toArray, List.set_cons_zero, List.set_cons_succ, i64_w, i32_w]
    rfl
   refine pure_ (i := 9) (N := some 28) (v := undef) (a' := ?_) #[true, true, true, true, true, true, true, true, true, true, false, false, false, false, false, false, false, false, false] rfl rfl (any_of HT_.out (by kernel_rfl)) (fun _ _ _ h => h) (Or.inr ⟨by rfl, rfl⟩) ?_ ?_
   rotate_left
   ·simp only [Act.put, List.setIfInBounds_toArray, List.set_cons_zero, List.set_cons_succ, i64_w, i32_w]
    rfl
   refine pure_ (i := 10) (N := some 29) (v := undef) (a' := ?_) #[true, true, true, true, true, true, true, true, true, true, true, false, false, false, false, false, false, false, false] rfl rfl (any_of HT_.out (by kernel_rfl)) (fun _ _ _ h => h) (Or.inr ⟨by rfl, rfl⟩) ?_ ?_
   rotate_left
   ·simp only [Act.put, List.setIfInBounds_toArray, List.set_cons_zero, List.set_cons_succ, i64_w, i32_w]
    rfl
   refine pure_ (i := 11) (N := some 30) (v := undef) (a' := ?_) #[true, true, true, true, true, true, true, true, true, true, true, true, false, false, false, false, false, false, false] rfl rfl (any_of HT_.out (by kernel_rfl)) (fun _ _ _ h => h) (Or.inr ⟨by rfl, rfl⟩) ?_ ?_
   rotate_left
   ·simp only [Act.put, List.setIfInBounds_toArray, List.set_cons_zero, List.set_cons_succ, i64_w, i32_w]
    rfl
   refine pure_ (i := 12) (N := some 31) (v := undef) (a' := ?_) #[true, true, true, true, true, true, true, true, true, true, true, true, true, false, false, false, false, false, false] rfl rfl (any_of HT_.out (by kernel_rfl)) (fun _ _ _ h => h) (Or.inr ⟨by rfl, rfl⟩) ?_ ?_
   rotate_left
   ·simp only [Act.put, List.setIfInBounds_toArray, List.set_cons_zero, List.set_cons_succ, i64_w, i32_w]
    rfl
   refine pure_ (i := 13) (N := some 32) (v := undef) (a' := ?_) #[true, true, true, true, true, true, true, true, true, true, true, true, true, true, false, false, false, false, false] rfl rfl (any_of HT_.out (by kernel_rfl)) (fun _ _ _ h => h) (Or.inr ⟨by rfl, rfl⟩) ?_ ?_
   rotate_left
   ·simp only [Act.put, List.setIfInBounds_toArray, List.set_cons_zero, List.set_cons_succ, i64_w, i32_w]
    rfl
   refine pure_ (i := 14) (N := some 33) (v := undef) (a' := ?_) #[true, true, true, true, true, true, true, true, true, true, true, true, true, true, true, false, false, false, false] rfl rfl (any_of HT_.out (by kernel_rfl)) (fun _ _ _ h => h) (Or.inr ⟨by rfl, rfl⟩) ?_ ?_
   rotate_left
   ·simp only [Act.put, List.setIfInBounds_toArray, List.set_cons_zero, List.set_cons_succ, i64_w, i32_w]
    rfl
   refine pure_ (i := 15) (N := some 34) (v := undef) (a' := ?_) #[true, true, true, true, true, true, true, true, true, true, true, true, true, true, true, true, false, false, false] rfl rfl (any_of HT_.out (by kernel_rfl)) (fun _ _ _ h => h) (Or.inr ⟨by rfl, rfl⟩) ?_ ?_
   rotate_left
   ·simp only [Act.put, List.setIfInBounds_toArray, List.set_cons_zero, List.set_cons_succ, i64_w, i32_w]
    rfl
   refine pure_ (i := 16) (N := some 35) (v := undef) (a' := ?_) #[true, true, true, true, true, true, true, true, true, true, true, true, true, true, true, true, true, false, false] rfl rfl (any_of HT_.out (by kernel_rfl)) (fun _ _ _ h => h) (Or.inr ⟨by rfl, rfl⟩) ?_ ?_
   rotate_left
   ·simp only [Act.put, List.setIfInBounds_toArray, List.set_cons_zero, List.set_cons_succ, i64_w, i32_w]
    rfl
   refine pure_ (i := 17) (N := some 36) (v := undef) (a' := ?_) #[true, true, true, true, true, true, true, true, true, true, true, true, true, true, true, true, true, true, false] rfl rfl (any_of HT_.out (by kernel_rfl)) (fun _ _ _ h => h) (Or.inr ⟨by rfl, rfl⟩) ?_ ?_
   rotate_left
   ·simp only [Act.put, List.setIfInBounds_toArray, List.set_cons_zero, List.set_cons_succ, i64_w, i32_w]
    rfl
   refine pure_ (i := 18) (N := some 37) (v := ?_) (a' := ?_) #[true, true, true, true, true, true, true, true, true, true, true, true, true, true, true, true, true, true, true] rfl rfl (any_of HT_.out (by kernel_rfl)) (fun _ _ _ h => h) (Or.inl ⟨by rfl, ?_⟩) ?_ ?_
   rotate_left
   ·intro w'
    go_simp
    with_reducible rfl
   rotate_left
   ·simp only [Act.put, List.setIfInBounds_toArray, List.set_cons_zero, List.set_cons_succ, i64_w, i32_w]
    rfl
   refine done_ (done_of HT_.out (by kernel_rfl)) ?_
   try go_wp2
   go_meet
   case rel => exact ⟨_, (true), (by first | rfl | (simp; done) | (simp [*]; done)), H', ⟨by first | omega | exact Nat.le_refl _⟩, ⟨by (with_reducible repeat (first | apply bd1 | apply bd2 | apply bd3)); exact BK338.out⟩, ⟨by (with_reducible repeat (first | apply bd1 | apply bd2 | apply bd3)); exact BK343.out⟩, ⟨by repeat (first | (with_reducible first | exact HI0.out | apply IsS76.alloc | apply IsS76.drewN | apply IsS76.drew | apply IsS76.set_0 | apply IsS76.set_1 | apply IsS76.far (hne := NB0_338.out) | apply IsS76.far (hne := NB0_343.out)) | exact HI0.out)⟩, ⟨by repeat (first | (with_reducible first | exact HK.out | apply bk1 | apply bk2 | apply bk3 | apply bk4 | refine keep_far ?_ GW338.out _ | refine keep_far ?_ GW343.out _) | exact HK.out)⟩, ⟨by repeat (first | (with_reducible first | exact HB.out | apply bw1 | apply bw2 | apply bw3 | refine below_set ?_ (IsS76.ge HI0.out) | refine below_set ?_ GE338.out | refine below_set ?_ GE343.out) | exact HB.out)⟩⟩
 case rest =>
  clear HC3
  try clear c1
  try clear p2
  try clear c12
  try clear c12b0
  try clear c12b1
  try clear c13
  try clear c13b0
  try clear c13b1
  try clear c14
  try clear c14b0
  try clear c14b1
  try clear c15
  try clear c15b0
  try clear c15b1
  try clear c16
  try clear c16b0
  try clear c16b1
  obtain ⟨kq, x37_2, rfl, HA, HJ2, BK338, BK343, HI0, HK, HB⟩ := hcut
  cases kq with
  | zero => exact absurd HA.out (by simp [scan_reader_include.j0])
  | succ kj2 =>
   have H := HA.out
   clear HA
   simp only [scan_reader_include.j0] at H
   by_cases c23 : x37_2 = true
   ·subst c23
    have H1 : (some (false, 0, 0, (⟨#[]⟩ : ByteArray), (⟨#[]⟩ : ByteArray), 0, false, s0_0, s0_1)) = some (r1, r2, r3, r4, r5, r6, r7, r8, r9) := by rw [if_pos rfl] at H; exact H
    clear H
    have H := H1
    clear H1
    simp only [Option.some.injEq, Prod.mk.injEq] at H
    obtain ⟨rfl, rfl, rfl, rfl, rfl, rfl, rfl, rfl, rfl⟩ := H
    have hnb24 := NB338_343.out
    have hnc24 := NB343_338.out
    have hnb25 := NB338_0.out
    have hnc25 := NB0_338.out
    have hcz26_0 : wc.cell? ⟨gb338, 0, none⟩ = some (.string (⟨#[]⟩ : ByteArray)) := (blk_cell BK338.out 0).trans rfl
    have hcz26_1 : wc.cell? ⟨gb338, 1, none⟩ = some (.string (⟨#[]⟩ : ByteArray)) := (blk_cell BK338.out 1).trans rfl
    have hcz26_2 : wc.cell? ⟨gb338, 2, none⟩ = some (.int .i64 0) := (blk_cell BK338.out 2).trans rfl
    have hfz26_0 := blk_frozen BK338.out 0
    have hfz26_1 := blk_frozen BK338.out 1
    have hfz26_2 := blk_frozen BK338.out 2
    go_wp2
    refine bodyPost_ret (results_ct rfl _ _ gb338 35 #[.string (⟨#[]⟩ : ByteArray), .string (⟨#[]⟩ : ByteArray), .int .i64 0] (0, 0) _ rfl (by (with_reducible repeat (first | apply bd1 | apply bd2 | apply bd3)); refine blk_put (cs := #[.string (⟨#[]⟩ : ByteArray), .string (⟨#[]⟩ : ByteArray), .int .i64 0]) ?_ 2 _ rfl; (with_reducible repeat (first | apply bd1 | apply bd2 | apply bd3)); refine blk_put (cs := #[.string (⟨#[]⟩ : ByteArray), .string (⟨#[]⟩ : ByteArray), .int .i64 0]) ?_ 1 _ rfl; (with_reducible repeat (first | apply bd1 | apply bd2 | apply bd3)); refine blk_put (cs := #[.string (⟨#[]⟩ : ByteArray), .string (⟨#[]⟩ : ByteArray), .int .i64 0]) ?_ 0 _ rfl; (with_reducible repeat (first | apply bd1 | apply bd2 | apply bd3)); exact BK338.out) Tryz.underlying35 rfl (by kernel_rfl)) rfl ?_
    exact ⟨by first | rfl | (simp [*, errW_none, errW_some] <;> rfl), by repeat (first | (with_reducible first | exact HI0.out | apply IsS76.alloc | apply IsS76.drewN | apply IsS76.drew | apply IsS76.set_0 | apply IsS76.set_1 | apply IsS76.far (hne := NB0_338.out) | apply IsS76.far (hne := NB0_343.out)) | exact HI0.out), by repeat (first | (with_reducible first | exact HB.out | apply bw1 | apply bw2 | apply bw3 | refine below_set ?_ (IsS76.ge HI0.out) | refine below_set ?_ GE338.out | refine below_set ?_ GE343.out) | exact HB.out), by repeat (first | (with_reducible first | exact HK.out | apply bk1 | apply bk2 | apply bk3 | apply bk4 | refine keep_far ?_ GW338.out _ | refine keep_far ?_ GW343.out _) | exact HK.out)⟩
   ·replace c23 := Bool.eq_false_iff.mpr c23
    subst c23
    have H1 : ((scan_reader_want.f kj2 s0_0 t341 3 (⟨#[]⟩ : ByteArray)).bind fun bt345 => (if bt345.1 = true then (some (true, bt345.2.1, bt345.2.2.1, (⟨#[]⟩ : ByteArray), (⟨#[]⟩ : ByteArray), 0, false, bt345.2.2.2.2.1, bt345.2.2.2.2.2)) else ((lex_Text.f kj2 bt345.2.2.2.1).bind fun bt351 => ((scan_reader_want.f kj2 bt345.2.2.2.2.1 bt345.2.2.2.2.2 4 (⟨#[97, 115]⟩ : ByteArray)).bind fun bt353 => (if bt353.1 = true then (some (true, bt353.2.1, bt353.2.2.1, (⟨#[]⟩ : ByteArray), (⟨#[]⟩ : ByteArray), 0, false, bt353.2.2.2.2.1, bt353.2.2.2.2.2)) else ((scan_reader_want.f kj2 bt353.2.2.2.2.1 bt353.2.2.2.2.2 1 (⟨#[]⟩ : ByteArray)).bind fun bt359 => (if bt359.1 = true then (some (true, bt359.2.1, bt359.2.2.1, (⟨#[]⟩ : ByteArray), (⟨#[]⟩ : ByteArray), 0, false, bt359.2.2.2.2.1, bt359.2.2.2.2.2)) else ((scan_reader_want.f kj2 bt359.2.2.2.2.1 bt359.2.2.2.2.2 5 (⟨#[59]⟩ : ByteArray)).bind fun bt365 => (if bt365.1 = true then (some (true, bt365.2.1, bt365.2.2.1, (⟨#[]⟩ : ByteArray), (⟨#[]⟩ : ByteArray), 0, false, bt365.2.2.2.2.1, bt365.2.2.2.2.2)) else (some (false, 0, 0, bt351.1, bt359.2.2.2.1, t340, true, bt365.2.2.2.2.1, bt365.2.2.2.2.2))))))))))) = some (r1, r2, r3, r4, r5, r6, r7, r8, r9) := by rw [if_neg (show ¬ (false = true) by decide)] at H; exact H
    clear H
    have H := H1
    clear H1
    replace H := Option.bind_eq_some_iff.mp H
    obtain ⟨⟨t345, t346, t347, t348, t349, t350⟩, A270, H⟩ := H
    replace H : (if t345 = true then (some (true, t346, t347, (⟨#[]⟩ : ByteArray), (⟨#[]⟩ : ByteArray), 0, false, t349, t350)) else ((lex_Text.f kj2 t348).bind fun bt351 => ((scan_reader_want.f kj2 t349 t350 4 (⟨#[97, 115]⟩ : ByteArray)).bind fun bt353 => (if bt353.1 = true then (some (true, bt353.2.1, bt353.2.2.1, (⟨#[]⟩ : ByteArray), (⟨#[]⟩ : ByteArray), 0, false, bt353.2.2.2.2.1, bt353.2.2.2.2.2)) else ((scan_reader_want.f kj2 bt353.2.2.2.2.1 bt353.2.2.2.2.2 1 (⟨#[]⟩ : ByteArray)).bind fun bt359 => (if bt359.1 = true then (some (true, bt359.2.1, bt359.2.2.1, (⟨#[]⟩ : ByteArray), (⟨#[]⟩ : ByteArray), 0, false, bt359.2.2.2.2.1, bt359.2.2.2.2.2)) else ((scan_reader_want.f kj2 bt359.2.2.2.2.1 bt359.2.2.2.2.2 5 (⟨#[59]⟩ : ByteArray)).bind fun bt365 => (if bt365.1 = true then (some (true, bt365.2.1, bt365.2.2.1, (⟨#[]⟩ : ByteArray), (⟨#[]⟩ : ByteArray), 0, false, bt365.2.2.2.2.1, bt365.2.2.2.2.2)) else (some (false, 0, 0, bt351.1, bt359.2.2.2.1, t340, true, bt365.2.2.2.2.1, bt365.2.2.2.2.2)))))))))) = some (r1, r2, r3, r4, r5, r6, r7, r8, r9) := H
    have A27 := Aside0.mk A270
    clear A270
    by_cases c28 : t345 = true
    ·subst c28
     have H1 : (some (true, t346, t347, (⟨#[]⟩ : ByteArray), (⟨#[]⟩ : ByteArray), 0, false, t349, t350)) = some (r1, r2, r3, r4, r5, r6, r7, r8, r9) := by rw [if_pos rfl] at H; exact H
     clear H
     have H := H1
     clear H1
     simp only [Option.some.injEq, Prod.mk.injEq] at H
     obtain ⟨rfl, rfl, rfl, rfl, rfl, rfl, rfl, rfl, rfl⟩ := H
     have hnb29 := NB343_338.out
     have hnc29 := NB338_343.out
     have hnb30 := NB343_0.out
     have hnc30 := NB0_343.out
     have hcz31_0 : wc.cell? ⟨gb343, 0, none⟩ = some (.int .i64 t339) := (blk_cell BK343.out 0).trans rfl
     have hcz31_1 : wc.cell? ⟨gb343, 1, none⟩ = some (.int .i64 t340) := (blk_cell BK343.out 1).trans rfl
     have hcz31_2 : wc.cell? ⟨gb343, 2, none⟩ = some (.int .i64 t341) := (blk_cell BK343.out 2).trans rfl
     have hfz31_0 := blk_frozen BK343.out 0
     have hfz31_1 := blk_frozen BK343.out 1
     have hfz31_2 := blk_frozen BK343.out 2
     obtain ⟨HGz32, hgz32⟩ := HI0.out
     have hcz32_0 := cellS76_0 HGz32
     have hcz32_1 := cellS76_1 HGz32
     have hfz32_0 := blk_frozen HGz32 0
     have hfz32_1 := blk_frozen HGz32 1
     clear HGz32 hgz32
     go_wp2_with (first | ((with_reducible refine gate_dst (N := 6) rfl ?_); refine box_event ?hg (N := 6) ?hd (cs := #[.string (⟨#[]⟩ : ByteArray), .string (⟨#[]⟩ : ByteArray), .int .i64 0]) (t := 35) ?hr ?_; (case hd => rfl); (case hg => rfl); (case hr => first | (go_simp; done) | (go_simp; rfl)); intro gb344 hg w33 hbox hb; have n0_ := Aside0.mk (blk_below (g := gb338) (o := .cells #[.string (⟨#[]⟩ : ByteArray), .string (⟨#[]⟩ : ByteArray), .int .i64 0] 35 (0, 0)) (by (with_reducible repeat (first | apply bd1 | apply bd2 | apply bd3)); refine blk_far ?_ NB338_0.out _; (with_reducible repeat (first | apply bd1 | apply bd2 | apply bd3)); exact BK338.out) hb); have n1_ := Aside0.mk (blk_below (g := gb343) (o := .cells #[.int .i64 t339, .int .i64 t340, .int .i64 t341] 81 (0, 0)) (by (with_reducible repeat (first | apply bd1 | apply bd2 | apply bd3)); refine blk_far ?_ NB343_0.out _; (with_reducible repeat (first | apply bd1 | apply bd2 | apply bd3)); exact BK343.out) hb); have n2_ := Aside0.mk (IsS76.below (show IsS76 w0 (wc.setCell ⟨g, 1, none⟩ (.int .i64 t341)) g s0_0 t341 from by repeat (first | (with_reducible first | exact HI0.out | apply IsS76.alloc | apply IsS76.drewN | apply IsS76.drew | apply IsS76.set_0 | apply IsS76.set_1 | apply IsS76.far (hne := NB0_338.out) | apply IsS76.far (hne := NB0_343.out)) | exact HI0.out)) hb); have n3_ := Aside0.mk (KeepBut.trans (by repeat (first | (with_reducible first | exact HK.out | apply bk1 | apply bk2 | apply bk3 | apply bk4 | refine keep_far ?_ GW338.out _ | refine keep_far ?_ GW343.out _) | exact HK.out)) (KeepBut.of_below hb g none) (.inl rfl)); have n4_ := Aside0.mk (below_step (by repeat (first | (with_reducible first | exact HB.out | apply bw1 | apply bw2 | apply bw3 | refine below_set ?_ (IsS76.ge HI0.out) | refine below_set ?_ GE338.out | refine below_set ?_ GE343.out) | exact HB.out)) hb); have n5_ := Aside0.mk (hbox); have n6_ := Aside0.mk ((by rw [hg]; exact (keep_size (w := w) (g := g) (row := none) (by repeat (first | (with_reducible first | exact HK.out | apply bk1 | apply bk2 | apply bk3 | apply bk4 | refine keep_far ?_ GW338.out _ | refine keep_far ?_ GW343.out _) | exact HK.out))) : w.heap.size ≤ gb344)); have n7_ := Aside0.mk ((Nat.le_trans HW0.out n6_.out : w0.heap.size ≤ gb344)); have n8_ := Aside0.mk ((by rw [hg]; exact Nat.ne_of_lt (blk_lt (g := gb338) (o := .cells #[.string (⟨#[]⟩ : ByteArray), .string (⟨#[]⟩ : ByteArray), .int .i64 0] 35 (0, 0)) (by (with_reducible repeat (first | apply bd1 | apply bd2 | apply bd3)); refine blk_far ?_ NB338_0.out _; (with_reducible repeat (first | apply bd1 | apply bd2 | apply bd3)); exact BK338.out)) : gb338 ≠ gb344)); have n9_ := Aside0.mk (Ne.symm n8_.out); have n10_ := Aside0.mk ((by rw [hg]; exact Nat.ne_of_lt (blk_lt (g := gb343) (o := .cells #[.int .i64 t339, .int .i64 t340, .int .i64 t341] 81 (0, 0)) (by (with_reducible repeat (first | apply bd1 | apply bd2 | apply bd3)); refine blk_far ?_ NB343_0.out _; (with_reducible repeat (first | apply bd1 | apply bd2 | apply bd3)); exact BK343.out)) : gb343 ≠ gb344)); have n11_ := Aside0.mk (Ne.symm n10_.out); have n12_ := Aside0.mk ((by rw [hg]; exact Nat.ne_of_lt (IsS76.lt (show IsS76 w0 _ g s0_0 t341 from by repeat (first | (with_reducible first | exact HI0.out | apply IsS76.alloc | apply IsS76.drewN | apply IsS76.drew | apply IsS76.set_0 | apply IsS76.set_1 | apply IsS76.far (hne := NB0_338.out) | apply IsS76.far (hne := NB0_343.out)) | exact HI0.out))) : g ≠ gb344)); have n13_ := Aside0.mk (Ne.symm n12_.out); clear BK338 BK343 HI0 HK HB; have BK338 := n0_; have BK343 := n1_; have HI0 := n2_; have HK := n3_; have HB := n4_; have BK344 := n5_; have GW344 := n6_; have GE344 := n7_; have NB338_344 := n8_; have NB344_338 := n9_; have NB343_344 := n10_; have NB344_343 := n11_; have NB0_344 := n12_; have NB344_0 := n13_; clear n0_ n1_ n2_ n3_ n4_ n5_ n6_ n7_ n8_ n9_ n10_ n11_ n12_ n13_; clear hb hbox hg; have hnb34 := NB344_338.out; have hnc34 := NB338_344.out; have hnb35 := NB344_343.out; have hnc35 := NB343_344.out; have hnb36 := NB344_0.out; have hnc36 := NB0_344.out; have hcz37_0 : w33.cell? ⟨gb344, 0, none⟩ = some (.string (⟨#[]⟩ : ByteArray)) := (blk_cell BK344.out 0).trans rfl; have hcz37_1 : w33.cell? ⟨gb344, 1, none⟩ = some (.string (⟨#[]⟩ : ByteArray)) := (blk_cell BK344.out 1).trans rfl; have hcz37_2 : w33.cell? ⟨gb344, 2, none⟩ = some (.int .i64 0) := (blk_cell BK344.out 2).trans rfl; have hfz37_0 := blk_frozen BK344.out 0; have hfz37_1 := blk_frozen BK344.out 1; have hfz37_2 := blk_frozen BK344.out 2) | ((with_reducible refine gate_callee (f := 55) rfl ?_); refine goesP_ (some 49) rfl rfl Tryz.func55 (by kernel_rfl) rfl #[.pointer (some ⟨g, 0, none⟩), .int .i64 3, .string (⟨#[]⟩ : ByteArray)] rfl (am.trans (by rfl)) ?_; (with_reducible refine (scan_reader_want.calls kj2 g s0_0 t341 3 (⟨#[]⟩ : ByteArray) true t346 t347 t348 t349 t350 w0 _ ?side1 ?side2 A27.out (by first | exact HI.out | exact Inv.below HI.out (by repeat (first | (with_reducible first | exact HB.out | apply bw1 | apply bw2 | apply bw3) | exact HB.out)) | exact Inv.drawn HI.out (by repeat (first | exact Drawn0.refl _ | apply Drawn0.step)))).mono ?_); (case side1 => repeat (first | (with_reducible first | exact HI0.out | apply IsS76.alloc | apply IsS76.drewN | apply IsS76.drew | apply IsS76.set_0 | apply IsS76.set_1 | apply IsS76.far (hne := NB0_338.out) | apply IsS76.far (hne := NB0_343.out) | apply IsS76.far (hne := NB0_344.out)) | exact HI0.out)); (case side2 => repeat (first | (with_reducible first | exact HB.out | apply bw1 | apply bw2 | apply bw3 | refine below_set ?_ (IsS76.ge HI0.out) | refine below_set ?_ GE338.out | refine below_set ?_ GE343.out | refine below_set ?_ GE344.out) | exact HB.out)); rintro e w38 ⟨rfl, hi, hb, hk⟩; refine ⟨_, rfl, ?_⟩; have n0_ := Aside0.mk (KeepBut.blk hk (g' := gb338) (o := .cells #[.string (⟨#[]⟩ : ByteArray), .string (⟨#[]⟩ : ByteArray), .int .i64 0] 35 (0, 0)) (by (with_reducible repeat (first | apply bd1 | apply bd2 | apply bd3)); refine blk_far ?_ NB338_344.out _; (with_reducible repeat (first | apply bd1 | apply bd2 | apply bd3)); refine blk_far ?_ NB338_344.out _; (with_reducible repeat (first | apply bd1 | apply bd2 | apply bd3)); refine blk_far ?_ NB338_344.out _; (with_reducible repeat (first | apply bd1 | apply bd2 | apply bd3)); exact BK338.out) NB338_0.out (by simp)); have n1_ := Aside0.mk (KeepBut.blk hk (g' := gb343) (o := .cells #[.int .i64 t339, .int .i64 t340, .int .i64 t341] 81 (0, 0)) (by (with_reducible repeat (first | apply bd1 | apply bd2 | apply bd3)); refine blk_far ?_ NB343_344.out _; (with_reducible repeat (first | apply bd1 | apply bd2 | apply bd3)); refine blk_far ?_ NB343_344.out _; (with_reducible repeat (first | apply bd1 | apply bd2 | apply bd3)); refine blk_far ?_ NB343_344.out _; (with_reducible repeat (first | apply bd1 | apply bd2 | apply bd3)); exact BK343.out) NB343_0.out (by simp)); have n2_ := Aside0.mk (KeepBut.blk hk (g' := gb344) (o := .cells #[.string (⟨#[]⟩ : ByteArray), .string (⟨#[]⟩ : ByteArray), .int .i64 t340] 35 (0, 0)) (by (with_reducible repeat (first | apply bd1 | apply bd2 | apply bd3)); refine blk_put (cs := #[.string (⟨#[]⟩ : ByteArray), .string (⟨#[]⟩ : ByteArray), .int .i64 0]) ?_ 2 _ rfl; (with_reducible repeat (first | apply bd1 | apply bd2 | apply bd3)); refine blk_put (cs := #[.string (⟨#[]⟩ : ByteArray), .string (⟨#[]⟩ : ByteArray), .int .i64 0]) ?_ 1 _ rfl; (with_reducible repeat (first | apply bd1 | apply bd2 | apply bd3)); refine blk_put (cs := #[.string (⟨#[]⟩ : ByteArray), .string (⟨#[]⟩ : ByteArray), .int .i64 0]) ?_ 0 _ rfl; (with_reducible repeat (first | apply bd1 | apply bd2 | apply bd3)); exact BK344.out) NB344_0.out (by simp)); have n3_ := Aside0.mk (KeepBut.trans (by repeat (first | (with_reducible first | exact HK.out | apply bk1 | apply bk2 | apply bk3 | apply bk4 | refine keep_far ?_ GW338.out _ | refine keep_far ?_ GW343.out _ | refine keep_far ?_ GW344.out _) | exact HK.out)) hk (.inl rfl)); have n4_ := Aside0.mk (hb); have n5_ := Aside0.mk (hi); clear BK338 BK343 BK344 HK HB HI0; have BK338 := n0_; have BK343 := n1_; have BK344 := n2_; have HK := n3_; have HB := n4_; have HI0 := n5_; clear n0_ n1_ n2_ n3_ n4_ n5_; (try clear hb); (try clear hb2); (try clear hk); (try clear hi)))
     refine bodyPost_panic rfl ?_
     exact ⟨by first | rfl | (simp [*, errW_none, errW_some] <;> rfl), by repeat (first | (with_reducible first | exact HI0.out | apply IsS76.alloc | apply IsS76.drewN | apply IsS76.drew | apply IsS76.set_0 | apply IsS76.set_1 | apply IsS76.far (hne := NB0_338.out) | apply IsS76.far (hne := NB0_343.out) | apply IsS76.far (hne := NB0_344.out)) | exact HI0.out), by repeat (first | (with_reducible first | exact HB.out | apply bw1 | apply bw2 | apply bw3 | refine below_set ?_ (IsS76.ge HI0.out) | refine below_set ?_ GE338.out | refine below_set ?_ GE343.out | refine below_set ?_ GE344.out) | exact HB.out), by repeat (first | (with_reducible first | exact HK.out | apply bk1 | apply bk2 | apply bk3 | apply bk4 | refine keep_far ?_ GW338.out _ | refine keep_far ?_ GW343.out _ | refine keep_far ?_ GW344.out _) | exact HK.out)⟩
    ·replace c28 := Bool.eq_false_iff.mpr c28
     subst c28
     have H1 : ((lex_Text.f kj2 t348).bind fun bt351 => ((scan_reader_want.f kj2 t349 t350 4 (⟨#[97, 115]⟩ : ByteArray)).bind fun bt353 => (if bt353.1 = true then (some (true, bt353.2.1, bt353.2.2.1, (⟨#[]⟩ : ByteArray), (⟨#[]⟩ : ByteArray), 0, false, bt353.2.2.2.2.1, bt353.2.2.2.2.2)) else ((scan_reader_want.f kj2 bt353.2.2.2.2.1 bt353.2.2.2.2.2 1 (⟨#[]⟩ : ByteArray)).bind fun bt359 => (if bt359.1 = true then (some (true, bt359.2.1, bt359.2.2.1, (⟨#[]⟩ : ByteArray), (⟨#[]⟩ : ByteArray), 0, false, bt359.2.2.2.2.1, bt359.2.2.2.2.2)) else ((scan_reader_want.f kj2 bt359.2.2.2.2.1 bt359.2.2.2.2.2 5 (⟨#[59]⟩ : ByteArray)).bind fun bt365 => (if bt365.1 = true then (some (true, bt365.2.1, bt365.2.2.1, (⟨#[]⟩ : ByteArray), (⟨#[]⟩ : ByteArray), 0, false, bt365.2.2.2.2.1, bt365.2.2.2.2.2)) else (some (false, 0, 0, bt351.1, bt359.2.2.2.1, t340, true, bt365.2.2.2.2.1, bt365.2.2.2.2.2))))))))) = some (r1, r2, r3, r4, r5, r6, r7, r8, r9) := by rw [if_neg (show ¬ (false = true) by decide)] at H; exact H
     clear H
     have H := H1
     clear H1
     replace H := Option.bind_eq_some_iff.mp H
     obtain ⟨⟨t351, t352⟩, A390, H⟩ := H
     replace H : ((scan_reader_want.f kj2 t349 t350 4 (⟨#[97, 115]⟩ : ByteArray)).bind fun bt353 => (if bt353.1 = true then (some (true, bt353.2.1, bt353.2.2.1, (⟨#[]⟩ : ByteArray), (⟨#[]⟩ : ByteArray), 0, false, bt353.2.2.2.2.1, bt353.2.2.2.2.2)) else ((scan_reader_want.f kj2 bt353.2.2.2.2.1 bt353.2.2.2.2.2 1 (⟨#[]⟩ : ByteArray)).bind fun bt359 => (if bt359.1 = true then (some (true, bt359.2.1, bt359.2.2.1, (⟨#[]⟩ : ByteArray), (⟨#[]⟩ : ByteArray), 0, false, bt359.2.2.2.2.1, bt359.2.2.2.2.2)) else ((scan_reader_want.f kj2 bt359.2.2.2.2.1 bt359.2.2.2.2.2 5 (⟨#[59]⟩ : ByteArray)).bind fun bt365 => (if bt365.1 = true then (some (true, bt365.2.1, bt365.2.2.1, (⟨#[]⟩ : ByteArray), (⟨#[]⟩ : ByteArray), 0, false, bt365.2.2.2.2.1, bt365.2.2.2.2.2)) else (some (false, 0, 0, t351, bt359.2.2.2.1, t340, true, bt365.2.2.2.2.1, bt365.2.2.2.2.2)))))))) = some (r1, r2, r3, r4, r5, r6, r7, r8, r9) := H
     have A39 := Aside0.mk A390
     clear A390
     replace H := Option.bind_eq_some_iff.mp H
     obtain ⟨⟨t353, t354, t355, t356, t357, t358⟩, A400, H⟩ := H
     replace H : (if t353 = true then (some (true, t354, t355, (⟨#[]⟩ : ByteArray), (⟨#[]⟩ : ByteArray), 0, false, t357, t358)) else ((scan_reader_want.f kj2 t357 t358 1 (⟨#[]⟩ : ByteArray)).bind fun bt359 => (if bt359.1 = true then (some (true, bt359.2.1, bt359.2.2.1, (⟨#[]⟩ : ByteArray), (⟨#[]⟩ : ByteArray), 0, false, bt359.2.2.2.2.1, bt359.2.2.2.2.2)) else ((scan_reader_want.f kj2 bt359.2.2.2.2.1 bt359.2.2.2.2.2 5 (⟨#[59]⟩ : ByteArray)).bind fun bt365 => (if bt365.1 = true then (some (true, bt365.2.1, bt365.2.2.1, (⟨#[]⟩ : ByteArray), (⟨#[]⟩ : ByteArray), 0, false, bt365.2.2.2.2.1, bt365.2.2.2.2.2)) else (some (false, 0, 0, t351, bt359.2.2.2.1, t340, true, bt365.2.2.2.2.1, bt365.2.2.2.2.2))))))) = some (r1, r2, r3, r4, r5, r6, r7, r8, r9) := H
     have A40 := Aside0.mk A400
     clear A400
     by_cases c41 : t353 = true
     ·subst c41
      have H1 : (some (true, t354, t355, (⟨#[]⟩ : ByteArray), (⟨#[]⟩ : ByteArray), 0, false, t357, t358)) = some (r1, r2, r3, r4, r5, r6, r7, r8, r9) := by rw [if_pos rfl] at H; exact H
      clear H
      have H := H1
      clear H1
      simp only [Option.some.injEq, Prod.mk.injEq] at H
      obtain ⟨rfl, rfl, rfl, rfl, rfl, rfl, rfl, rfl, rfl⟩ := H
      have hnb42 := NB343_338.out
      have hnc42 := NB338_343.out
      have hnb43 := NB343_0.out
      have hnc43 := NB0_343.out
      have hcz44_0 : wc.cell? ⟨gb343, 0, none⟩ = some (.int .i64 t339) := (blk_cell BK343.out 0).trans rfl
      have hcz44_1 : wc.cell? ⟨gb343, 1, none⟩ = some (.int .i64 t340) := (blk_cell BK343.out 1).trans rfl
      have hcz44_2 : wc.cell? ⟨gb343, 2, none⟩ = some (.int .i64 t341) := (blk_cell BK343.out 2).trans rfl
      have hfz44_0 := blk_frozen BK343.out 0
      have hfz44_1 := blk_frozen BK343.out 1
      have hfz44_2 := blk_frozen BK343.out 2
      obtain ⟨HGz45, hgz45⟩ := HI0.out
      have hcz45_0 := cellS76_0 HGz45
      have hcz45_1 := cellS76_1 HGz45
      have hfz45_0 := blk_frozen HGz45 0
      have hfz45_1 := blk_frozen HGz45 1
      clear HGz45 hgz45
      go_wp2_with (first | ((with_reducible refine gate_dst (N := 6) rfl ?_); refine box_event ?hg (N := 6) ?hd (cs := #[.string (⟨#[]⟩ : ByteArray), .string (⟨#[]⟩ : ByteArray), .int .i64 0]) (t := 35) ?hr ?_; (case hd => rfl); (case hg => rfl); (case hr => first | (go_simp; done) | (go_simp; rfl)); intro gb344 hg w46 hbox hb; have n0_ := Aside0.mk (blk_below (g := gb338) (o := .cells #[.string (⟨#[]⟩ : ByteArray), .string (⟨#[]⟩ : ByteArray), .int .i64 0] 35 (0, 0)) (by (with_reducible repeat (first | apply bd1 | apply bd2 | apply bd3)); refine blk_far ?_ NB338_0.out _; (with_reducible repeat (first | apply bd1 | apply bd2 | apply bd3)); exact BK338.out) hb); have n1_ := Aside0.mk (blk_below (g := gb343) (o := .cells #[.int .i64 t339, .int .i64 t340, .int .i64 t341] 81 (0, 0)) (by (with_reducible repeat (first | apply bd1 | apply bd2 | apply bd3)); refine blk_far ?_ NB343_0.out _; (with_reducible repeat (first | apply bd1 | apply bd2 | apply bd3)); exact BK343.out) hb); have n2_ := Aside0.mk (IsS76.below (show IsS76 w0 (wc.setCell ⟨g, 1, none⟩ (.int .i64 t341)) g s0_0 t341 from by repeat (first | (with_reducible first | exact HI0.out | apply IsS76.alloc | apply IsS76.drewN | apply IsS76.drew | apply IsS76.set_0 | apply IsS76.set_1 | apply IsS76.far (hne := NB0_338.out) | apply IsS76.far (hne := NB0_343.out)) | exact HI0.out)) hb); have n3_ := Aside0.mk (KeepBut.trans (by repeat (first | (with_reducible first | exact HK.out | apply bk1 | apply bk2 | apply bk3 | apply bk4 | refine keep_far ?_ GW338.out _ | refine keep_far ?_ GW343.out _) | exact HK.out)) (KeepBut.of_below hb g none) (.inl rfl)); have n4_ := Aside0.mk (below_step (by repeat (first | (with_reducible first | exact HB.out | apply bw1 | apply bw2 | apply bw3 | refine below_set ?_ (IsS76.ge HI0.out) | refine below_set ?_ GE338.out | refine below_set ?_ GE343.out) | exact HB.out)) hb); have n5_ := Aside0.mk (hbox); have n6_ := Aside0.mk ((by rw [hg]; exact (keep_size (w := w) (g := g) (row := none) (by repeat (first | (with_reducible first | exact HK.out | apply bk1 | apply bk2 | apply bk3 | apply bk4 | refine keep_far ?_ GW338.out _ | refine keep_far ?_ GW343.out _) | exact HK.out))) : w.heap.size ≤ gb344)); have n7_ := Aside0.mk ((Nat.le_trans HW0.out n6_.out : w0.heap.size ≤ gb344)); have n8_ := Aside0.mk ((by rw [hg]; exact Nat.ne_of_lt (blk_lt (g := gb338) (o := .cells #[.string (⟨#[]⟩ : ByteArray), .string (⟨#[]⟩ : ByteArray), .int .i64 0] 35 (0, 0)) (by (with_reducible repeat (first | apply bd1 | apply bd2 | apply bd3)); refine blk_far ?_ NB338_0.out _; (with_reducible repeat (first | apply bd1 | apply bd2 | apply bd3)); exact BK338.out)) : gb338 ≠ gb344)); have n9_ := Aside0.mk (Ne.symm n8_.out); have n10_ := Aside0.mk ((by rw [hg]; exact Nat.ne_of_lt (blk_lt (g := gb343) (o := .cells #[.int .i64 t339, .int .i64 t340, .int .i64 t341] 81 (0, 0)) (by (with_reducible repeat (first | apply bd1 | apply bd2 | apply bd3)); refine blk_far ?_ NB343_0.out _; (with_reducible repeat (first | apply bd1 | apply bd2 | apply bd3)); exact BK343.out)) : gb343 ≠ gb344)); have n11_ := Aside0.mk (Ne.symm n10_.out); have n12_ := Aside0.mk ((by rw [hg]; exact Nat.ne_of_lt (IsS76.lt (show IsS76 w0 _ g s0_0 t341 from by repeat (first | (with_reducible first | exact HI0.out | apply IsS76.alloc | apply IsS76.drewN | apply IsS76.drew | apply IsS76.set_0 | apply IsS76.set_1 | apply IsS76.far (hne := NB0_338.out) | apply IsS76.far (hne := NB0_343.out)) | exact HI0.out))) : g ≠ gb344)); have n13_ := Aside0.mk (Ne.symm n12_.out); clear BK338 BK343 HI0 HK HB; have BK338 := n0_; have BK343 := n1_; have HI0 := n2_; have HK := n3_; have HB := n4_; have BK344 := n5_; have GW344 := n6_; have GE344 := n7_; have NB338_344 := n8_; have NB344_338 := n9_; have NB343_344 := n10_; have NB344_343 := n11_; have NB0_344 := n12_; have NB344_0 := n13_; clear n0_ n1_ n2_ n3_ n4_ n5_ n6_ n7_ n8_ n9_ n10_ n11_ n12_ n13_; clear hb hbox hg; have hnb47 := NB344_338.out; have hnc47 := NB338_344.out; have hnb48 := NB344_343.out; have hnc48 := NB343_344.out; have hnb49 := NB344_0.out; have hnc49 := NB0_344.out; have hcz50_0 : w46.cell? ⟨gb344, 0, none⟩ = some (.string (⟨#[]⟩ : ByteArray)) := (blk_cell BK344.out 0).trans rfl; have hcz50_1 : w46.cell? ⟨gb344, 1, none⟩ = some (.string (⟨#[]⟩ : ByteArray)) := (blk_cell BK344.out 1).trans rfl; have hcz50_2 : w46.cell? ⟨gb344, 2, none⟩ = some (.int .i64 0) := (blk_cell BK344.out 2).trans rfl; have hfz50_0 := blk_frozen BK344.out 0; have hfz50_1 := blk_frozen BK344.out 1; have hfz50_2 := blk_frozen BK344.out 2) | ((with_reducible refine gate_callee (f := 55) rfl ?_); refine goesL_ (some 49) rfl rfl Tryz.func55 (by kernel_rfl) rfl #[.pointer (some ⟨g, 0, none⟩), .int .i64 3, .string (⟨#[]⟩ : ByteArray)] rfl (am.trans (by rfl)) ?_; (with_reducible refine (scan_reader_want.calls kj2 g s0_0 t341 3 (⟨#[]⟩ : ByteArray) false t346 t347 t348 t349 t350 w0 _ ?side1 ?side2 A27.out (by first | exact HI.out | exact Inv.below HI.out (by repeat (first | (with_reducible first | exact HB.out | apply bw1 | apply bw2 | apply bw3 | refine below_set ?_ (IsS76.ge HI0.out) | refine below_set ?_ GE338.out | refine below_set ?_ GE343.out | refine below_set ?_ GE344.out) | exact HB.out)) | exact Inv.drawn HI.out (by repeat (first | exact Drawn0.refl _ | apply Drawn0.step)))).mono ?_); (case side1 => repeat (first | (with_reducible first | exact HI0.out | apply IsS76.alloc | apply IsS76.drewN | apply IsS76.drew | apply IsS76.set_0 | apply IsS76.set_1 | apply IsS76.far (hne := NB0_338.out) | apply IsS76.far (hne := NB0_343.out) | apply IsS76.far (hne := NB0_344.out)) | exact HI0.out)); (case side2 => repeat (first | (with_reducible first | exact HB.out | apply bw1 | apply bw2 | apply bw3 | refine below_set ?_ (IsS76.ge HI0.out) | refine below_set ?_ GE338.out | refine below_set ?_ GE343.out | refine below_set ?_ GE344.out) | exact HB.out)); rintro e w51 ⟨rfl, hi, hb, hk⟩; refine ⟨_, rfl, ?_⟩; have n0_ := Aside0.mk (KeepBut.blk hk (g' := gb338) (o := .cells #[.string (⟨#[]⟩ : ByteArray), .string (⟨#[]⟩ : ByteArray), .int .i64 0] 35 (0, 0)) (by (with_reducible repeat (first | apply bd1 | apply bd2 | apply bd3)); refine blk_far ?_ NB338_344.out _; (with_reducible repeat (first | apply bd1 | apply bd2 | apply bd3)); refine blk_far ?_ NB338_344.out _; (with_reducible repeat (first | apply bd1 | apply bd2 | apply bd3)); refine blk_far ?_ NB338_344.out _; (with_reducible repeat (first | apply bd1 | apply bd2 | apply bd3)); exact BK338.out) NB338_0.out (by simp)); have n1_ := Aside0.mk (KeepBut.blk hk (g' := gb343) (o := .cells #[.int .i64 t339, .int .i64 t340, .int .i64 t341] 81 (0, 0)) (by (with_reducible repeat (first | apply bd1 | apply bd2 | apply bd3)); refine blk_far ?_ NB343_344.out _; (with_reducible repeat (first | apply bd1 | apply bd2 | apply bd3)); refine blk_far ?_ NB343_344.out _; (with_reducible repeat (first | apply bd1 | apply bd2 | apply bd3)); refine blk_far ?_ NB343_344.out _; (with_reducible repeat (first | apply bd1 | apply bd2 | apply bd3)); exact BK343.out) NB343_0.out (by simp)); have n2_ := Aside0.mk (KeepBut.blk hk (g' := gb344) (o := .cells #[.string (⟨#[]⟩ : ByteArray), .string (⟨#[]⟩ : ByteArray), .int .i64 t340] 35 (0, 0)) (by (with_reducible repeat (first | apply bd1 | apply bd2 | apply bd3)); refine blk_put (cs := #[.string (⟨#[]⟩ : ByteArray), .string (⟨#[]⟩ : ByteArray), .int .i64 0]) ?_ 2 _ rfl; (with_reducible repeat (first | apply bd1 | apply bd2 | apply bd3)); refine blk_put (cs := #[.string (⟨#[]⟩ : ByteArray), .string (⟨#[]⟩ : ByteArray), .int .i64 0]) ?_ 1 _ rfl; (with_reducible repeat (first | apply bd1 | apply bd2 | apply bd3)); refine blk_put (cs := #[.string (⟨#[]⟩ : ByteArray), .string (⟨#[]⟩ : ByteArray), .int .i64 0]) ?_ 0 _ rfl; (with_reducible repeat (first | apply bd1 | apply bd2 | apply bd3)); exact BK344.out) NB344_0.out (by simp)); have n3_ := Aside0.mk (KeepBut.trans (by repeat (first | (with_reducible first | exact HK.out | apply bk1 | apply bk2 | apply bk3 | apply bk4 | refine keep_far ?_ GW338.out _ | refine keep_far ?_ GW343.out _ | refine keep_far ?_ GW344.out _) | exact HK.out)) hk (.inl rfl)); have n4_ := Aside0.mk (hb); have n5_ := Aside0.mk (hi); clear BK338 BK343 BK344 HK HB HI0; have BK338 := n0_; have BK343 := n1_; have BK344 := n2_; have HK := n3_; have HB := n4_; have HI0 := n5_; clear n0_ n1_ n2_ n3_ n4_ n5_; (try clear hb); (try clear hb2); (try clear hk); (try clear hi)) | ((with_reducible refine gate_callee (f := 54) rfl ?_); refine goesL_ (some 50) rfl rfl Tryz.func54 (by kernel_rfl) rfl #[.string t348] rfl (am.trans (by rfl)) ?_; (with_reducible refine (lex_Text.calls kj2 t348 t351 t352 _ A39.out).mono ?_); rintro e w52 ⟨rfl, hb⟩; refine ⟨_, rfl, ?_⟩; have n0_ := Aside0.mk (blk_below (g := gb338) (o := .cells #[.string (⟨#[]⟩ : ByteArray), .string (⟨#[]⟩ : ByteArray), .int .i64 0] 35 (0, 0)) (by (with_reducible repeat (first | apply bd1 | apply bd2 | apply bd3)); exact BK338.out) hb); have n1_ := Aside0.mk (blk_below (g := gb343) (o := .cells #[.int .i64 t339, .int .i64 t340, .int .i64 t341] 81 (0, 0)) (by (with_reducible repeat (first | apply bd1 | apply bd2 | apply bd3)); exact BK343.out) hb); have n2_ := Aside0.mk (IsS76.below (by repeat (first | (with_reducible first | exact HI0.out | apply IsS76.alloc | apply IsS76.drewN | apply IsS76.drew | apply IsS76.set_0 | apply IsS76.set_1 | apply IsS76.far (hne := NB0_338.out) | apply IsS76.far (hne := NB0_343.out) | apply IsS76.far (hne := NB0_344.out)) | exact HI0.out)) hb); have n3_ := Aside0.mk (blk_below (g := gb344) (o := .cells #[.string (⟨#[]⟩ : ByteArray), .string (⟨#[]⟩ : ByteArray), .int .i64 t340] 35 (0, 0)) (by (with_reducible repeat (first | apply bd1 | apply bd2 | apply bd3)); exact BK344.out) hb); have n4_ := Aside0.mk (KeepBut.trans (by repeat (first | (with_reducible first | exact HK.out | apply bk1 | apply bk2 | apply bk3 | apply bk4 | refine keep_far ?_ GW338.out _ | refine keep_far ?_ GW343.out _ | refine keep_far ?_ GW344.out _) | exact HK.out)) (KeepBut.of_below hb g none) (.inl rfl)); have n5_ := Aside0.mk (below_step (by repeat (first | (with_reducible first | exact HB.out | apply bw1 | apply bw2 | apply bw3 | refine below_set ?_ (IsS76.ge HI0.out) | refine below_set ?_ GE338.out | refine below_set ?_ GE343.out | refine below_set ?_ GE344.out) | exact HB.out)) hb); clear BK338 BK343 HI0 BK344 HK HB; have BK338 := n0_; have BK343 := n1_; have HI0 := n2_; have BK344 := n3_; have HK := n4_; have HB := n5_; clear n0_ n1_ n2_ n3_ n4_ n5_; (try clear hb); (try clear hb2); (try clear hk); (try clear hi); have hcz53_0 : w52.cell? ⟨gb344, 0, none⟩ = some (.string (⟨#[]⟩ : ByteArray)) := (blk_cell BK344.out 0).trans rfl; have hcz53_1 : w52.cell? ⟨gb344, 1, none⟩ = some (.string (⟨#[]⟩ : ByteArray)) := (blk_cell BK344.out 1).trans rfl; have hcz53_2 : w52.cell? ⟨gb344, 2, none⟩ = some (.int .i64 t340) := (blk_cell BK344.out 2).trans rfl; have hfz53_0 := blk_frozen BK344.out 0; have hfz53_1 := blk_frozen BK344.out 1; have hfz53_2 := blk_frozen BK344.out 2) | ((with_reducible refine gate_callee (f := 55) rfl ?_); refine goesP_ (some 55) rfl rfl Tryz.func55 (by kernel_rfl) rfl #[.pointer (some ⟨g, 0, none⟩), .int .i64 4, .string (⟨#[97, 115]⟩ : ByteArray)] rfl (am.trans (by rfl)) ?_; (with_reducible refine (scan_reader_want.calls kj2 g t349 t350 4 (⟨#[97, 115]⟩ : ByteArray) true t354 t355 t356 t357 t358 w0 _ ?side1 ?side2 A40.out (by first | exact HI.out | exact Inv.below HI.out (by repeat (first | (with_reducible first | exact HB.out | apply bw1 | apply bw2 | apply bw3) | exact HB.out)) | exact Inv.drawn HI.out (by repeat (first | exact Drawn0.refl _ | apply Drawn0.step)))).mono ?_); (case side1 => repeat (first | (with_reducible first | exact HI0.out | apply IsS76.alloc | apply IsS76.drewN | apply IsS76.drew | apply IsS76.set_0 | apply IsS76.set_1 | apply IsS76.far (hne := NB0_338.out) | apply IsS76.far (hne := NB0_343.out) | apply IsS76.far (hne := NB0_344.out)) | exact HI0.out)); (case side2 => repeat (first | (with_reducible first | exact HB.out | apply bw1 | apply bw2 | apply bw3 | refine below_set ?_ (IsS76.ge HI0.out) | refine below_set ?_ GE338.out | refine below_set ?_ GE343.out | refine below_set ?_ GE344.out) | exact HB.out)); rintro e w54 ⟨rfl, hi, hb, hk⟩; refine ⟨_, rfl, ?_⟩; have n0_ := Aside0.mk (KeepBut.blk hk (g' := gb338) (o := .cells #[.string (⟨#[]⟩ : ByteArray), .string (⟨#[]⟩ : ByteArray), .int .i64 0] 35 (0, 0)) (by (with_reducible repeat (first | apply bd1 | apply bd2 | apply bd3)); refine blk_far ?_ NB338_344.out _; (with_reducible repeat (first | apply bd1 | apply bd2 | apply bd3)); exact BK338.out) NB338_0.out (by simp)); have n1_ := Aside0.mk (KeepBut.blk hk (g' := gb343) (o := .cells #[.int .i64 t339, .int .i64 t340, .int .i64 t341] 81 (0, 0)) (by (with_reducible repeat (first | apply bd1 | apply bd2 | apply bd3)); refine blk_far ?_ NB343_344.out _; (with_reducible repeat (first | apply bd1 | apply bd2 | apply bd3)); exact BK343.out) NB343_0.out (by simp)); have n2_ := Aside0.mk (KeepBut.blk hk (g' := gb344) (o := .cells #[.string t351, .string (⟨#[]⟩ : ByteArray), .int .i64 t340] 35 (0, 0)) (by (with_reducible repeat (first | apply bd1 | apply bd2 | apply bd3)); refine blk_put (cs := #[.string (⟨#[]⟩ : ByteArray), .string (⟨#[]⟩ : ByteArray), .int .i64 t340]) ?_ 0 _ rfl; (with_reducible repeat (first | apply bd1 | apply bd2 | apply bd3)); exact BK344.out) NB344_0.out (by simp)); have n3_ := Aside0.mk (KeepBut.trans (by repeat (first | (with_reducible first | exact HK.out | apply bk1 | apply bk2 | apply bk3 | apply bk4 | refine keep_far ?_ GW338.out _ | refine keep_far ?_ GW343.out _ | refine keep_far ?_ GW344.out _) | exact HK.out)) hk (.inl rfl)); have n4_ := Aside0.mk (hb); have n5_ := Aside0.mk (hi); clear BK338 BK343 BK344 HK HB HI0; have BK338 := n0_; have BK343 := n1_; have BK344 := n2_; have HK := n3_; have HB := n4_; have HI0 := n5_; clear n0_ n1_ n2_ n3_ n4_ n5_; (try clear hb); (try clear hb2); (try clear hk); (try clear hi)))
      refine bodyPost_panic rfl ?_
      exact ⟨by first | rfl | (simp [*, errW_none, errW_some] <;> rfl), by repeat (first | (with_reducible first | exact HI0.out | apply IsS76.alloc | apply IsS76.drewN | apply IsS76.drew | apply IsS76.set_0 | apply IsS76.set_1 | apply IsS76.far (hne := NB0_338.out) | apply IsS76.far (hne := NB0_343.out) | apply IsS76.far (hne := NB0_344.out)) | exact HI0.out), by repeat (first | (with_reducible first | exact HB.out | apply bw1 | apply bw2 | apply bw3 | refine below_set ?_ (IsS76.ge HI0.out) | refine below_set ?_ GE338.out | refine below_set ?_ GE343.out | refine below_set ?_ GE344.out) | exact HB.out), by repeat (first | (with_reducible first | exact HK.out | apply bk1 | apply bk2 | apply bk3 | apply bk4 | refine keep_far ?_ GW338.out _ | refine keep_far ?_ GW343.out _ | refine keep_far ?_ GW344.out _) | exact HK.out)⟩
     ·replace c41 := Bool.eq_false_iff.mpr c41
      subst c41
      have H1 : ((scan_reader_want.f kj2 t357 t358 1 (⟨#[]⟩ : ByteArray)).bind fun bt359 => (if bt359.1 = true then (some (true, bt359.2.1, bt359.2.2.1, (⟨#[]⟩ : ByteArray), (⟨#[]⟩ : ByteArray), 0, false, bt359.2.2.2.2.1, bt359.2.2.2.2.2)) else ((scan_reader_want.f kj2 bt359.2.2.2.2.1 bt359.2.2.2.2.2 5 (⟨#[59]⟩ : ByteArray)).bind fun bt365 => (if bt365.1 = true then (some (true, bt365.2.1, bt365.2.2.1, (⟨#[]⟩ : ByteArray), (⟨#[]⟩ : ByteArray), 0, false, bt365.2.2.2.2.1, bt365.2.2.2.2.2)) else (some (false, 0, 0, t351, bt359.2.2.2.1, t340, true, bt365.2.2.2.2.1, bt365.2.2.2.2.2)))))) = some (r1, r2, r3, r4, r5, r6, r7, r8, r9) := by rw [if_neg (show ¬ (false = true) by decide)] at H; exact H
      clear H
      have H := H1
      clear H1
      replace H := Option.bind_eq_some_iff.mp H
      obtain ⟨⟨t359, t360, t361, t362, t363, t364⟩, A550, H⟩ := H
      replace H : (if t359 = true then (some (true, t360, t361, (⟨#[]⟩ : ByteArray), (⟨#[]⟩ : ByteArray), 0, false, t363, t364)) else ((scan_reader_want.f kj2 t363 t364 5 (⟨#[59]⟩ : ByteArray)).bind fun bt365 => (if bt365.1 = true then (some (true, bt365.2.1, bt365.2.2.1, (⟨#[]⟩ : ByteArray), (⟨#[]⟩ : ByteArray), 0, false, bt365.2.2.2.2.1, bt365.2.2.2.2.2)) else (some (false, 0, 0, t351, t362, t340, true, bt365.2.2.2.2.1, bt365.2.2.2.2.2))))) = some (r1, r2, r3, r4, r5, r6, r7, r8, r9) := H
      have A55 := Aside0.mk A550
      clear A550
      by_cases c56 : t359 = true
      ·subst c56
       have H1 : (some (true, t360, t361, (⟨#[]⟩ : ByteArray), (⟨#[]⟩ : ByteArray), 0, false, t363, t364)) = some (r1, r2, r3, r4, r5, r6, r7, r8, r9) := by rw [if_pos rfl] at H; exact H
       clear H
       have H := H1
       clear H1
       simp only [Option.some.injEq, Prod.mk.injEq] at H
       obtain ⟨rfl, rfl, rfl, rfl, rfl, rfl, rfl, rfl, rfl⟩ := H
       have hnb57 := NB343_338.out
       have hnc57 := NB338_343.out
       have hnb58 := NB343_0.out
       have hnc58 := NB0_343.out
       have hcz59_0 : wc.cell? ⟨gb343, 0, none⟩ = some (.int .i64 t339) := (blk_cell BK343.out 0).trans rfl
       have hcz59_1 : wc.cell? ⟨gb343, 1, none⟩ = some (.int .i64 t340) := (blk_cell BK343.out 1).trans rfl
       have hcz59_2 : wc.cell? ⟨gb343, 2, none⟩ = some (.int .i64 t341) := (blk_cell BK343.out 2).trans rfl
       have hfz59_0 := blk_frozen BK343.out 0
       have hfz59_1 := blk_frozen BK343.out 1
       have hfz59_2 := blk_frozen BK343.out 2
       obtain ⟨HGz60, hgz60⟩ := HI0.out
       have hcz60_0 := cellS76_0 HGz60
       have hcz60_1 := cellS76_1 HGz60
       have hfz60_0 := blk_frozen HGz60 0
       have hfz60_1 := blk_frozen HGz60 1
       clear HGz60 hgz60
       go_wp2_with (first | ((with_reducible refine gate_dst (N := 6) rfl ?_); refine box_event ?hg (N := 6) ?hd (cs := #[.string (⟨#[]⟩ : ByteArray), .string (⟨#[]⟩ : ByteArray), .int .i64 0]) (t := 35) ?hr ?_; (case hd => rfl); (case hg => rfl); (case hr => first | (go_simp; done) | (go_simp; rfl)); intro gb344 hg w61 hbox hb; have n0_ := Aside0.mk (blk_below (g := gb338) (o := .cells #[.string (⟨#[]⟩ : ByteArray), .string (⟨#[]⟩ : ByteArray), .int .i64 0] 35 (0, 0)) (by (with_reducible repeat (first | apply bd1 | apply bd2 | apply bd3)); refine blk_far ?_ NB338_0.out _; (with_reducible repeat (first | apply bd1 | apply bd2 | apply bd3)); exact BK338.out) hb); have n1_ := Aside0.mk (blk_below (g := gb343) (o := .cells #[.int .i64 t339, .int .i64 t340, .int .i64 t341] 81 (0, 0)) (by (with_reducible repeat (first | apply bd1 | apply bd2 | apply bd3)); refine blk_far ?_ NB343_0.out _; (with_reducible repeat (first | apply bd1 | apply bd2 | apply bd3)); exact BK343.out) hb); have n2_ := Aside0.mk (IsS76.below (show IsS76 w0 (wc.setCell ⟨g, 1, none⟩ (.int .i64 t341)) g s0_0 t341 from by repeat (first | (with_reducible first | exact HI0.out | apply IsS76.alloc | apply IsS76.drewN | apply IsS76.drew | apply IsS76.set_0 | apply IsS76.set_1 | apply IsS76.far (hne := NB0_338.out) | apply IsS76.far (hne := NB0_343.out)) | exact HI0.out)) hb); have n3_ := Aside0.mk (KeepBut.trans (by repeat (first | (with_reducible first | exact HK.out | apply bk1 | apply bk2 | apply bk3 | apply bk4 | refine keep_far ?_ GW338.out _ | refine keep_far ?_ GW343.out _) | exact HK.out)) (KeepBut.of_below hb g none) (.inl rfl)); have n4_ := Aside0.mk (below_step (by repeat (first | (with_reducible first | exact HB.out | apply bw1 | apply bw2 | apply bw3 | refine below_set ?_ (IsS76.ge HI0.out) | refine below_set ?_ GE338.out | refine below_set ?_ GE343.out) | exact HB.out)) hb); have n5_ := Aside0.mk (hbox); have n6_ := Aside0.mk ((by rw [hg]; exact (keep_size (w := w) (g := g) (row := none) (by repeat (first | (with_reducible first | exact HK.out | apply bk1 | apply bk2 | apply bk3 | apply bk4 | refine keep_far ?_ GW338.out _ | refine keep_far ?_ GW343.out _) | exact HK.out))) : w.heap.size ≤ gb344)); have n7_ := Aside0.mk ((Nat.le_trans HW0.out n6_.out : w0.heap.size ≤ gb344)); have n8_ := Aside0.mk ((by rw [hg]; exact Nat.ne_of_lt (blk_lt (g := gb338) (o := .cells #[.string (⟨#[]⟩ : ByteArray), .string (⟨#[]⟩ : ByteArray), .int .i64 0] 35 (0, 0)) (by (with_reducible repeat (first | apply bd1 | apply bd2 | apply bd3)); refine blk_far ?_ NB338_0.out _; (with_reducible repeat (first | apply bd1 | apply bd2 | apply bd3)); exact BK338.out)) : gb338 ≠ gb344)); have n9_ := Aside0.mk (Ne.symm n8_.out); have n10_ := Aside0.mk ((by rw [hg]; exact Nat.ne_of_lt (blk_lt (g := gb343) (o := .cells #[.int .i64 t339, .int .i64 t340, .int .i64 t341] 81 (0, 0)) (by (with_reducible repeat (first | apply bd1 | apply bd2 | apply bd3)); refine blk_far ?_ NB343_0.out _; (with_reducible repeat (first | apply bd1 | apply bd2 | apply bd3)); exact BK343.out)) : gb343 ≠ gb344)); have n11_ := Aside0.mk (Ne.symm n10_.out); have n12_ := Aside0.mk ((by rw [hg]; exact Nat.ne_of_lt (IsS76.lt (show IsS76 w0 _ g s0_0 t341 from by repeat (first | (with_reducible first | exact HI0.out | apply IsS76.alloc | apply IsS76.drewN | apply IsS76.drew | apply IsS76.set_0 | apply IsS76.set_1 | apply IsS76.far (hne := NB0_338.out) | apply IsS76.far (hne := NB0_343.out)) | exact HI0.out))) : g ≠ gb344)); have n13_ := Aside0.mk (Ne.symm n12_.out); clear BK338 BK343 HI0 HK HB; have BK338 := n0_; have BK343 := n1_; have HI0 := n2_; have HK := n3_; have HB := n4_; have BK344 := n5_; have GW344 := n6_; have GE344 := n7_; have NB338_344 := n8_; have NB344_338 := n9_; have NB343_344 := n10_; have NB344_343 := n11_; have NB0_344 := n12_; have NB344_0 := n13_; clear n0_ n1_ n2_ n3_ n4_ n5_ n6_ n7_ n8_ n9_ n10_ n11_ n12_ n13_; clear hb hbox hg; have hnb62 := NB344_338.out; have hnc62 := NB338_344.out; have hnb63 := NB344_343.out; have hnc63 := NB343_344.out; have hnb64 := NB344_0.out; have hnc64 := NB0_344.out; have hcz65_0 : w61.cell? ⟨gb344, 0, none⟩ = some (.string (⟨#[]⟩ : ByteArray)) := (blk_cell BK344.out 0).trans rfl; have hcz65_1 : w61.cell? ⟨gb344, 1, none⟩ = some (.string (⟨#[]⟩ : ByteArray)) := (blk_cell BK344.out 1).trans rfl; have hcz65_2 : w61.cell? ⟨gb344, 2, none⟩ = some (.int .i64 0) := (blk_cell BK344.out 2).trans rfl; have hfz65_0 := blk_frozen BK344.out 0; have hfz65_1 := blk_frozen BK344.out 1; have hfz65_2 := blk_frozen BK344.out 2) | ((with_reducible refine gate_callee (f := 55) rfl ?_); refine goesL_ (some 49) rfl rfl Tryz.func55 (by kernel_rfl) rfl #[.pointer (some ⟨g, 0, none⟩), .int .i64 3, .string (⟨#[]⟩ : ByteArray)] rfl (am.trans (by rfl)) ?_; (with_reducible refine (scan_reader_want.calls kj2 g s0_0 t341 3 (⟨#[]⟩ : ByteArray) false t346 t347 t348 t349 t350 w0 _ ?side1 ?side2 A27.out (by first | exact HI.out | exact Inv.below HI.out (by repeat (first | (with_reducible first | exact HB.out | apply bw1 | apply bw2 | apply bw3 | refine below_set ?_ (IsS76.ge HI0.out) | refine below_set ?_ GE338.out | refine below_set ?_ GE343.out | refine below_set ?_ GE344.out) | exact HB.out)) | exact Inv.drawn HI.out (by repeat (first | exact Drawn0.refl _ | apply Drawn0.step)))).mono ?_); (case side1 => repeat (first | (with_reducible first | exact HI0.out | apply IsS76.alloc | apply IsS76.drewN | apply IsS76.drew | apply IsS76.set_0 | apply IsS76.set_1 | apply IsS76.far (hne := NB0_338.out) | apply IsS76.far (hne := NB0_343.out) | apply IsS76.far (hne := NB0_344.out)) | exact HI0.out)); (case side2 => repeat (first | (with_reducible first | exact HB.out | apply bw1 | apply bw2 | apply bw3 | refine below_set ?_ (IsS76.ge HI0.out) | refine below_set ?_ GE338.out | refine below_set ?_ GE343.out | refine below_set ?_ GE344.out) | exact HB.out)); rintro e w66 ⟨rfl, hi, hb, hk⟩; refine ⟨_, rfl, ?_⟩; have n0_ := Aside0.mk (KeepBut.blk hk (g' := gb338) (o := .cells #[.string (⟨#[]⟩ : ByteArray), .string (⟨#[]⟩ : ByteArray), .int .i64 0] 35 (0, 0)) (by (with_reducible repeat (first | apply bd1 | apply bd2 | apply bd3)); refine blk_far ?_ NB338_344.out _; (with_reducible repeat (first | apply bd1 | apply bd2 | apply bd3)); refine blk_far ?_ NB338_344.out _; (with_reducible repeat (first | apply bd1 | apply bd2 | apply bd3)); refine blk_far ?_ NB338_344.out _; (with_reducible repeat (first | apply bd1 | apply bd2 | apply bd3)); exact BK338.out) NB338_0.out (by simp)); have n1_ := Aside0.mk (KeepBut.blk hk (g' := gb343) (o := .cells #[.int .i64 t339, .int .i64 t340, .int .i64 t341] 81 (0, 0)) (by (with_reducible repeat (first | apply bd1 | apply bd2 | apply bd3)); refine blk_far ?_ NB343_344.out _; (with_reducible repeat (first | apply bd1 | apply bd2 | apply bd3)); refine blk_far ?_ NB343_344.out _; (with_reducible repeat (first | apply bd1 | apply bd2 | apply bd3)); refine blk_far ?_ NB343_344.out _; (with_reducible repeat (first | apply bd1 | apply bd2 | apply bd3)); exact BK343.out) NB343_0.out (by simp)); have n2_ := Aside0.mk (KeepBut.blk hk (g' := gb344) (o := .cells #[.string (⟨#[]⟩ : ByteArray), .string (⟨#[]⟩ : ByteArray), .int .i64 t340] 35 (0, 0)) (by (with_reducible repeat (first | apply bd1 | apply bd2 | apply bd3)); refine blk_put (cs := #[.string (⟨#[]⟩ : ByteArray), .string (⟨#[]⟩ : ByteArray), .int .i64 0]) ?_ 2 _ rfl; (with_reducible repeat (first | apply bd1 | apply bd2 | apply bd3)); refine blk_put (cs := #[.string (⟨#[]⟩ : ByteArray), .string (⟨#[]⟩ : ByteArray), .int .i64 0]) ?_ 1 _ rfl; (with_reducible repeat (first | apply bd1 | apply bd2 | apply bd3)); refine blk_put (cs := #[.string (⟨#[]⟩ : ByteArray), .string (⟨#[]⟩ : ByteArray), .int .i64 0]) ?_ 0 _ rfl; (with_reducible repeat (first | apply bd1 | apply bd2 | apply bd3)); exact BK344.out) NB344_0.out (by simp)); have n3_ := Aside0.mk (KeepBut.trans (by repeat (first | (with_reducible first | exact HK.out | apply bk1 | apply bk2 | apply bk3 | apply bk4 | refine keep_far ?_ GW338.out _ | refine keep_far ?_ GW343.out _ | refine keep_far ?_ GW344.out _) | exact HK.out)) hk (.inl rfl)); have n4_ := Aside0.mk (hb); have n5_ := Aside0.mk (hi); clear BK338 BK343 BK344 HK HB HI0; have BK338 := n0_; have BK343 := n1_; have BK344 := n2_; have HK := n3_; have HB := n4_; have HI0 := n5_; clear n0_ n1_ n2_ n3_ n4_ n5_; (try clear hb); (try clear hb2); (try clear hk); (try clear hi)) | ((with_reducible refine gate_callee (f := 54) rfl ?_); refine goesL_ (some 50) rfl rfl Tryz.func54 (by kernel_rfl) rfl #[.string t348] rfl (am.trans (by rfl)) ?_; (with_reducible refine (lex_Text.calls kj2 t348 t351 t352 _ A39.out).mono ?_); rintro e w67 ⟨rfl, hb⟩; refine ⟨_, rfl, ?_⟩; have n0_ := Aside0.mk (blk_below (g := gb338) (o := .cells #[.string (⟨#[]⟩ : ByteArray), .string (⟨#[]⟩ : ByteArray), .int .i64 0] 35 (0, 0)) (by (with_reducible repeat (first | apply bd1 | apply bd2 | apply bd3)); exact BK338.out) hb); have n1_ := Aside0.mk (blk_below (g := gb343) (o := .cells #[.int .i64 t339, .int .i64 t340, .int .i64 t341] 81 (0, 0)) (by (with_reducible repeat (first | apply bd1 | apply bd2 | apply bd3)); exact BK343.out) hb); have n2_ := Aside0.mk (IsS76.below (by repeat (first | (with_reducible first | exact HI0.out | apply IsS76.alloc | apply IsS76.drewN | apply IsS76.drew | apply IsS76.set_0 | apply IsS76.set_1 | apply IsS76.far (hne := NB0_338.out) | apply IsS76.far (hne := NB0_343.out) | apply IsS76.far (hne := NB0_344.out)) | exact HI0.out)) hb); have n3_ := Aside0.mk (blk_below (g := gb344) (o := .cells #[.string (⟨#[]⟩ : ByteArray), .string (⟨#[]⟩ : ByteArray), .int .i64 t340] 35 (0, 0)) (by (with_reducible repeat (first | apply bd1 | apply bd2 | apply bd3)); exact BK344.out) hb); have n4_ := Aside0.mk (KeepBut.trans (by repeat (first | (with_reducible first | exact HK.out | apply bk1 | apply bk2 | apply bk3 | apply bk4 | refine keep_far ?_ GW338.out _ | refine keep_far ?_ GW343.out _ | refine keep_far ?_ GW344.out _) | exact HK.out)) (KeepBut.of_below hb g none) (.inl rfl)); have n5_ := Aside0.mk (below_step (by repeat (first | (with_reducible first | exact HB.out | apply bw1 | apply bw2 | apply bw3 | refine below_set ?_ (IsS76.ge HI0.out) | refine below_set ?_ GE338.out | refine below_set ?_ GE343.out | refine below_set ?_ GE344.out) | exact HB.out)) hb); clear BK338 BK343 HI0 BK344 HK HB; have BK338 := n0_; have BK343 := n1_; have HI0 := n2_; have BK344 := n3_; have HK := n4_; have HB := n5_; clear n0_ n1_ n2_ n3_ n4_ n5_; (try clear hb); (try clear hb2); (try clear hk); (try clear hi); have hcz68_0 : w67.cell? ⟨gb344, 0, none⟩ = some (.string (⟨#[]⟩ : ByteArray)) := (blk_cell BK344.out 0).trans rfl; have hcz68_1 : w67.cell? ⟨gb344, 1, none⟩ = some (.string (⟨#[]⟩ : ByteArray)) := (blk_cell BK344.out 1).trans rfl; have hcz68_2 : w67.cell? ⟨gb344, 2, none⟩ = some (.int .i64 t340) := (blk_cell BK344.out 2).trans rfl; have hfz68_0 := blk_frozen BK344.out 0; have hfz68_1 := blk_frozen BK344.out 1; have hfz68_2 := blk_frozen BK344.out 2) | ((with_reducible refine gate_callee (f := 55) rfl ?_); refine goesL_ (some 55) rfl rfl Tryz.func55 (by kernel_rfl) rfl #[.pointer (some ⟨g, 0, none⟩), .int .i64 4, .string (⟨#[97, 115]⟩ : ByteArray)] rfl (am.trans (by rfl)) ?_; (with_reducible refine (scan_reader_want.calls kj2 g t349 t350 4 (⟨#[97, 115]⟩ : ByteArray) false t354 t355 t356 t357 t358 w0 _ ?side1 ?side2 A40.out (by first | exact HI.out | exact Inv.below HI.out (by repeat (first | (with_reducible first | exact HB.out | apply bw1 | apply bw2 | apply bw3) | exact HB.out)) | exact Inv.drawn HI.out (by repeat (first | exact Drawn0.refl _ | apply Drawn0.step)))).mono ?_); (case side1 => repeat (first | (with_reducible first | exact HI0.out | apply IsS76.alloc | apply IsS76.drewN | apply IsS76.drew | apply IsS76.set_0 | apply IsS76.set_1 | apply IsS76.far (hne := NB0_338.out) | apply IsS76.far (hne := NB0_343.out) | apply IsS76.far (hne := NB0_344.out)) | exact HI0.out)); (case side2 => repeat (first | (with_reducible first | exact HB.out | apply bw1 | apply bw2 | apply bw3 | refine below_set ?_ (IsS76.ge HI0.out) | refine below_set ?_ GE338.out | refine below_set ?_ GE343.out | refine below_set ?_ GE344.out) | exact HB.out)); rintro e w69 ⟨rfl, hi, hb, hk⟩; refine ⟨_, rfl, ?_⟩; have n0_ := Aside0.mk (KeepBut.blk hk (g' := gb338) (o := .cells #[.string (⟨#[]⟩ : ByteArray), .string (⟨#[]⟩ : ByteArray), .int .i64 0] 35 (0, 0)) (by (with_reducible repeat (first | apply bd1 | apply bd2 | apply bd3)); refine blk_far ?_ NB338_344.out _; (with_reducible repeat (first | apply bd1 | apply bd2 | apply bd3)); exact BK338.out) NB338_0.out (by simp)); have n1_ := Aside0.mk (KeepBut.blk hk (g' := gb343) (o := .cells #[.int .i64 t339, .int .i64 t340, .int .i64 t341] 81 (0, 0)) (by (with_reducible repeat (first | apply bd1 | apply bd2 | apply bd3)); refine blk_far ?_ NB343_344.out _; (with_reducible repeat (first | apply bd1 | apply bd2 | apply bd3)); exact BK343.out) NB343_0.out (by simp)); have n2_ := Aside0.mk (KeepBut.blk hk (g' := gb344) (o := .cells #[.string t351, .string (⟨#[]⟩ : ByteArray), .int .i64 t340] 35 (0, 0)) (by (with_reducible repeat (first | apply bd1 | apply bd2 | apply bd3)); refine blk_put (cs := #[.string (⟨#[]⟩ : ByteArray), .string (⟨#[]⟩ : ByteArray), .int .i64 t340]) ?_ 0 _ rfl; (with_reducible repeat (first | apply bd1 | apply bd2 | apply bd3)); exact BK344.out) NB344_0.out (by simp)); have n3_ := Aside0.mk (KeepBut.trans (by repeat (first | (with_reducible first | exact HK.out | apply bk1 | apply bk2 | apply bk3 | apply bk4 | refine keep_far ?_ GW338.out _ | refine keep_far ?_ GW343.out _ | refine keep_far ?_ GW344.out _) | exact HK.out)) hk (.inl rfl)); have n4_ := Aside0.mk (hb); have n5_ := Aside0.mk (hi); clear BK338 BK343 BK344 HK HB HI0; have BK338 := n0_; have BK343 := n1_; have BK344 := n2_; have HK := n3_; have HB := n4_; have HI0 := n5_; clear n0_ n1_ n2_ n3_ n4_ n5_; (try clear hb); (try clear hb2); (try clear hk); (try clear hi)) | ((with_reducible refine gate_callee (f := 55) rfl ?_); refine goesP_ (some 57) rfl rfl Tryz.func55 (by kernel_rfl) rfl #[.pointer (some ⟨g, 0, none⟩), .int .i64 1, .string (⟨#[]⟩ : ByteArray)] rfl (am.trans (by rfl)) ?_; (with_reducible refine (scan_reader_want.calls kj2 g t357 t358 1 (⟨#[]⟩ : ByteArray) true t360 t361 t362 t363 t364 w0 _ ?side1 ?side2 A55.out (by first | exact HI.out | exact Inv.below HI.out (by repeat (first | (with_reducible first | exact HB.out | apply bw1 | apply bw2 | apply bw3) | exact HB.out)) | exact Inv.drawn HI.out (by repeat (first | exact Drawn0.refl _ | apply Drawn0.step)))).mono ?_); (case side1 => repeat (first | (with_reducible first | exact HI0.out | apply IsS76.alloc | apply IsS76.drewN | apply IsS76.drew | apply IsS76.set_0 | apply IsS76.set_1 | apply IsS76.far (hne := NB0_338.out) | apply IsS76.far (hne := NB0_343.out) | apply IsS76.far (hne := NB0_344.out)) | exact HI0.out)); (case side2 => repeat (first | (with_reducible first | exact HB.out | apply bw1 | apply bw2 | apply bw3 | refine below_set ?_ (IsS76.ge HI0.out) | refine below_set ?_ GE338.out | refine below_set ?_ GE343.out | refine below_set ?_ GE344.out) | exact HB.out)); rintro e w70 ⟨rfl, hi, hb, hk⟩; refine ⟨_, rfl, ?_⟩; have n0_ := Aside0.mk (KeepBut.blk hk (g' := gb338) (o := .cells #[.string (⟨#[]⟩ : ByteArray), .string (⟨#[]⟩ : ByteArray), .int .i64 0] 35 (0, 0)) (by (with_reducible repeat (first | apply bd1 | apply bd2 | apply bd3)); exact BK338.out) NB338_0.out (by simp)); have n1_ := Aside0.mk (KeepBut.blk hk (g' := gb343) (o := .cells #[.int .i64 t339, .int .i64 t340, .int .i64 t341] 81 (0, 0)) (by (with_reducible repeat (first | apply bd1 | apply bd2 | apply bd3)); exact BK343.out) NB343_0.out (by simp)); have n2_ := Aside0.mk (KeepBut.blk hk (g' := gb344) (o := .cells #[.string t351, .string (⟨#[]⟩ : ByteArray), .int .i64 t340] 35 (0, 0)) (by (with_reducible repeat (first | apply bd1 | apply bd2 | apply bd3)); exact BK344.out) NB344_0.out (by simp)); have n3_ := Aside0.mk (KeepBut.trans (by repeat (first | (with_reducible first | exact HK.out | apply bk1 | apply bk2 | apply bk3 | apply bk4 | refine keep_far ?_ GW338.out _ | refine keep_far ?_ GW343.out _ | refine keep_far ?_ GW344.out _) | exact HK.out)) hk (.inl rfl)); have n4_ := Aside0.mk (hb); have n5_ := Aside0.mk (hi); clear BK338 BK343 BK344 HK HB HI0; have BK338 := n0_; have BK343 := n1_; have BK344 := n2_; have HK := n3_; have HB := n4_; have HI0 := n5_; clear n0_ n1_ n2_ n3_ n4_ n5_; (try clear hb); (try clear hb2); (try clear hk); (try clear hi)))
       refine bodyPost_panic rfl ?_
       exact ⟨by first | rfl | (simp [*, errW_none, errW_some] <;> rfl), by repeat (first | (with_reducible first | exact HI0.out | apply IsS76.alloc | apply IsS76.drewN | apply IsS76.drew | apply IsS76.set_0 | apply IsS76.set_1 | apply IsS76.far (hne := NB0_338.out) | apply IsS76.far (hne := NB0_343.out) | apply IsS76.far (hne := NB0_344.out)) | exact HI0.out), by repeat (first | (with_reducible first | exact HB.out | apply bw1 | apply bw2 | apply bw3 | refine below_set ?_ (IsS76.ge HI0.out) | refine below_set ?_ GE338.out | refine below_set ?_ GE343.out | refine below_set ?_ GE344.out) | exact HB.out), by repeat (first | (with_reducible first | exact HK.out | apply bk1 | apply bk2 | apply bk3 | apply bk4 | refine keep_far ?_ GW338.out _ | refine keep_far ?_ GW343.out _ | refine keep_far ?_ GW344.out _) | exact HK.out)⟩
      ·replace c56 := Bool.eq_false_iff.mpr c56
       subst c56
       have H1 : ((scan_reader_want.f kj2 t363 t364 5 (⟨#[59]⟩ : ByteArray)).bind fun bt365 => (if bt365.1 = true then (some (true, bt365.2.1, bt365.2.2.1, (⟨#[]⟩ : ByteArray), (⟨#[]⟩ : ByteArray), 0, false, bt365.2.2.2.2.1, bt365.2.2.2.2.2)) else (some (false, 0, 0, t351, t362, t340, true, bt365.2.2.2.2.1, bt365.2.2.2.2.2)))) = some (r1, r2, r3, r4, r5, r6, r7, r8, r9) := by rw [if_neg (show ¬ (false = true) by decide)] at H; exact H
       clear H
       have H := H1
       clear H1
       replace H := Option.bind_eq_some_iff.mp H
       obtain ⟨⟨t365, t366, t367, t368, t369, t370⟩, A710, H⟩ := H
       replace H : (if t365 = true then (some (true, t366, t367, (⟨#[]⟩ : ByteArray), (⟨#[]⟩ : ByteArray), 0, false, t369, t370)) else (some (false, 0, 0, t351, t362, t340, true, t369, t370))) = some (r1, r2, r3, r4, r5, r6, r7, r8, r9) := H
       have A71 := Aside0.mk A710
       clear A710
       by_cases c72 : t365 = true
       ·subst c72
        have H1 : (some (true, t366, t367, (⟨#[]⟩ : ByteArray), (⟨#[]⟩ : ByteArray), 0, false, t369, t370)) = some (r1, r2, r3, r4, r5, r6, r7, r8, r9) := by rw [if_pos rfl] at H; exact H
        clear H
        have H := H1
        clear H1
        simp only [Option.some.injEq, Prod.mk.injEq] at H
        obtain ⟨rfl, rfl, rfl, rfl, rfl, rfl, rfl, rfl, rfl⟩ := H
        have hnb73 := NB343_338.out
        have hnc73 := NB338_343.out
        have hnb74 := NB343_0.out
        have hnc74 := NB0_343.out
        have hcz75_0 : wc.cell? ⟨gb343, 0, none⟩ = some (.int .i64 t339) := (blk_cell BK343.out 0).trans rfl
        have hcz75_1 : wc.cell? ⟨gb343, 1, none⟩ = some (.int .i64 t340) := (blk_cell BK343.out 1).trans rfl
        have hcz75_2 : wc.cell? ⟨gb343, 2, none⟩ = some (.int .i64 t341) := (blk_cell BK343.out 2).trans rfl
        have hfz75_0 := blk_frozen BK343.out 0
        have hfz75_1 := blk_frozen BK343.out 1
        have hfz75_2 := blk_frozen BK343.out 2
        obtain ⟨HGz76, hgz76⟩ := HI0.out
        have hcz76_0 := cellS76_0 HGz76
        have hcz76_1 := cellS76_1 HGz76
        have hfz76_0 := blk_frozen HGz76 0
        have hfz76_1 := blk_frozen HGz76 1
        clear HGz76 hgz76
        go_wp2_with (first | ((with_reducible refine gate_dst (N := 6) rfl ?_); refine box_event ?hg (N := 6) ?hd (cs := #[.string (⟨#[]⟩ : ByteArray), .string (⟨#[]⟩ : ByteArray), .int .i64 0]) (t := 35) ?hr ?_; (case hd => rfl); (case hg => rfl); (case hr => first | (go_simp; done) | (go_simp; rfl)); intro gb344 hg w77 hbox hb; have n0_ := Aside0.mk (blk_below (g := gb338) (o := .cells #[.string (⟨#[]⟩ : ByteArray), .string (⟨#[]⟩ : ByteArray), .int .i64 0] 35 (0, 0)) (by (with_reducible repeat (first | apply bd1 | apply bd2 | apply bd3)); refine blk_far ?_ NB338_0.out _; (with_reducible repeat (first | apply bd1 | apply bd2 | apply bd3)); exact BK338.out) hb); have n1_ := Aside0.mk (blk_below (g := gb343) (o := .cells #[.int .i64 t339, .int .i64 t340, .int .i64 t341] 81 (0, 0)) (by (with_reducible repeat (first | apply bd1 | apply bd2 | apply bd3)); refine blk_far ?_ NB343_0.out _; (with_reducible repeat (first | apply bd1 | apply bd2 | apply bd3)); exact BK343.out) hb); have n2_ := Aside0.mk (IsS76.below (show IsS76 w0 (wc.setCell ⟨g, 1, none⟩ (.int .i64 t341)) g s0_0 t341 from by repeat (first | (with_reducible first | exact HI0.out | apply IsS76.alloc | apply IsS76.drewN | apply IsS76.drew | apply IsS76.set_0 | apply IsS76.set_1 | apply IsS76.far (hne := NB0_338.out) | apply IsS76.far (hne := NB0_343.out)) | exact HI0.out)) hb); have n3_ := Aside0.mk (KeepBut.trans (by repeat (first | (with_reducible first | exact HK.out | apply bk1 | apply bk2 | apply bk3 | apply bk4 | refine keep_far ?_ GW338.out _ | refine keep_far ?_ GW343.out _) | exact HK.out)) (KeepBut.of_below hb g none) (.inl rfl)); have n4_ := Aside0.mk (below_step (by repeat (first | (with_reducible first | exact HB.out | apply bw1 | apply bw2 | apply bw3 | refine below_set ?_ (IsS76.ge HI0.out) | refine below_set ?_ GE338.out | refine below_set ?_ GE343.out) | exact HB.out)) hb); have n5_ := Aside0.mk (hbox); have n6_ := Aside0.mk ((by rw [hg]; exact (keep_size (w := w) (g := g) (row := none) (by repeat (first | (with_reducible first | exact HK.out | apply bk1 | apply bk2 | apply bk3 | apply bk4 | refine keep_far ?_ GW338.out _ | refine keep_far ?_ GW343.out _) | exact HK.out))) : w.heap.size ≤ gb344)); have n7_ := Aside0.mk ((Nat.le_trans HW0.out n6_.out : w0.heap.size ≤ gb344)); have n8_ := Aside0.mk ((by rw [hg]; exact Nat.ne_of_lt (blk_lt (g := gb338) (o := .cells #[.string (⟨#[]⟩ : ByteArray), .string (⟨#[]⟩ : ByteArray), .int .i64 0] 35 (0, 0)) (by (with_reducible repeat (first | apply bd1 | apply bd2 | apply bd3)); refine blk_far ?_ NB338_0.out _; (with_reducible repeat (first | apply bd1 | apply bd2 | apply bd3)); exact BK338.out)) : gb338 ≠ gb344)); have n9_ := Aside0.mk (Ne.symm n8_.out); have n10_ := Aside0.mk ((by rw [hg]; exact Nat.ne_of_lt (blk_lt (g := gb343) (o := .cells #[.int .i64 t339, .int .i64 t340, .int .i64 t341] 81 (0, 0)) (by (with_reducible repeat (first | apply bd1 | apply bd2 | apply bd3)); refine blk_far ?_ NB343_0.out _; (with_reducible repeat (first | apply bd1 | apply bd2 | apply bd3)); exact BK343.out)) : gb343 ≠ gb344)); have n11_ := Aside0.mk (Ne.symm n10_.out); have n12_ := Aside0.mk ((by rw [hg]; exact Nat.ne_of_lt (IsS76.lt (show IsS76 w0 _ g s0_0 t341 from by repeat (first | (with_reducible first | exact HI0.out | apply IsS76.alloc | apply IsS76.drewN | apply IsS76.drew | apply IsS76.set_0 | apply IsS76.set_1 | apply IsS76.far (hne := NB0_338.out) | apply IsS76.far (hne := NB0_343.out)) | exact HI0.out))) : g ≠ gb344)); have n13_ := Aside0.mk (Ne.symm n12_.out); clear BK338 BK343 HI0 HK HB; have BK338 := n0_; have BK343 := n1_; have HI0 := n2_; have HK := n3_; have HB := n4_; have BK344 := n5_; have GW344 := n6_; have GE344 := n7_; have NB338_344 := n8_; have NB344_338 := n9_; have NB343_344 := n10_; have NB344_343 := n11_; have NB0_344 := n12_; have NB344_0 := n13_; clear n0_ n1_ n2_ n3_ n4_ n5_ n6_ n7_ n8_ n9_ n10_ n11_ n12_ n13_; clear hb hbox hg; have hnb78 := NB344_338.out; have hnc78 := NB338_344.out; have hnb79 := NB344_343.out; have hnc79 := NB343_344.out; have hnb80 := NB344_0.out; have hnc80 := NB0_344.out; have hcz81_0 : w77.cell? ⟨gb344, 0, none⟩ = some (.string (⟨#[]⟩ : ByteArray)) := (blk_cell BK344.out 0).trans rfl; have hcz81_1 : w77.cell? ⟨gb344, 1, none⟩ = some (.string (⟨#[]⟩ : ByteArray)) := (blk_cell BK344.out 1).trans rfl; have hcz81_2 : w77.cell? ⟨gb344, 2, none⟩ = some (.int .i64 0) := (blk_cell BK344.out 2).trans rfl; have hfz81_0 := blk_frozen BK344.out 0; have hfz81_1 := blk_frozen BK344.out 1; have hfz81_2 := blk_frozen BK344.out 2) | ((with_reducible refine gate_callee (f := 55) rfl ?_); refine goesL_ (some 49) rfl rfl Tryz.func55 (by kernel_rfl) rfl #[.pointer (some ⟨g, 0, none⟩), .int .i64 3, .string (⟨#[]⟩ : ByteArray)] rfl (am.trans (by rfl)) ?_; (with_reducible refine (scan_reader_want.calls kj2 g s0_0 t341 3 (⟨#[]⟩ : ByteArray) false t346 t347 t348 t349 t350 w0 _ ?side1 ?side2 A27.out (by first | exact HI.out | exact Inv.below HI.out (by repeat (first | (with_reducible first | exact HB.out | apply bw1 | apply bw2 | apply bw3 | refine below_set ?_ (IsS76.ge HI0.out) | refine below_set ?_ GE338.out | refine below_set ?_ GE343.out | refine below_set ?_ GE344.out) | exact HB.out)) | exact Inv.drawn HI.out (by repeat (first | exact Drawn0.refl _ | apply Drawn0.step)))).mono ?_); (case side1 => repeat (first | (with_reducible first | exact HI0.out | apply IsS76.alloc | apply IsS76.drewN | apply IsS76.drew | apply IsS76.set_0 | apply IsS76.set_1 | apply IsS76.far (hne := NB0_338.out) | apply IsS76.far (hne := NB0_343.out) | apply IsS76.far (hne := NB0_344.out)) | exact HI0.out)); (case side2 => repeat (first | (with_reducible first | exact HB.out | apply bw1 | apply bw2 | apply bw3 | refine below_set ?_ (IsS76.ge HI0.out) | refine below_set ?_ GE338.out | refine below_set ?_ GE343.out | refine below_set ?_ GE344.out) | exact HB.out)); rintro e w82 ⟨rfl, hi, hb, hk⟩; refine ⟨_, rfl, ?_⟩; have n0_ := Aside0.mk (KeepBut.blk hk (g' := gb338) (o := .cells #[.string (⟨#[]⟩ : ByteArray), .string (⟨#[]⟩ : ByteArray), .int .i64 0] 35 (0, 0)) (by (with_reducible repeat (first | apply bd1 | apply bd2 | apply bd3)); refine blk_far ?_ NB338_344.out _; (with_reducible repeat (first | apply bd1 | apply bd2 | apply bd3)); refine blk_far ?_ NB338_344.out _; (with_reducible repeat (first | apply bd1 | apply bd2 | apply bd3)); refine blk_far ?_ NB338_344.out _; (with_reducible repeat (first | apply bd1 | apply bd2 | apply bd3)); exact BK338.out) NB338_0.out (by simp)); have n1_ := Aside0.mk (KeepBut.blk hk (g' := gb343) (o := .cells #[.int .i64 t339, .int .i64 t340, .int .i64 t341] 81 (0, 0)) (by (with_reducible repeat (first | apply bd1 | apply bd2 | apply bd3)); refine blk_far ?_ NB343_344.out _; (with_reducible repeat (first | apply bd1 | apply bd2 | apply bd3)); refine blk_far ?_ NB343_344.out _; (with_reducible repeat (first | apply bd1 | apply bd2 | apply bd3)); refine blk_far ?_ NB343_344.out _; (with_reducible repeat (first | apply bd1 | apply bd2 | apply bd3)); exact BK343.out) NB343_0.out (by simp)); have n2_ := Aside0.mk (KeepBut.blk hk (g' := gb344) (o := .cells #[.string (⟨#[]⟩ : ByteArray), .string (⟨#[]⟩ : ByteArray), .int .i64 t340] 35 (0, 0)) (by (with_reducible repeat (first | apply bd1 | apply bd2 | apply bd3)); refine blk_put (cs := #[.string (⟨#[]⟩ : ByteArray), .string (⟨#[]⟩ : ByteArray), .int .i64 0]) ?_ 2 _ rfl; (with_reducible repeat (first | apply bd1 | apply bd2 | apply bd3)); refine blk_put (cs := #[.string (⟨#[]⟩ : ByteArray), .string (⟨#[]⟩ : ByteArray), .int .i64 0]) ?_ 1 _ rfl; (with_reducible repeat (first | apply bd1 | apply bd2 | apply bd3)); refine blk_put (cs := #[.string (⟨#[]⟩ : ByteArray), .string (⟨#[]⟩ : ByteArray), .int .i64 0]) ?_ 0 _ rfl; (with_reducible repeat (first | apply bd1 | apply bd2 | apply bd3)); exact BK344.out) NB344_0.out (by simp)); have n3_ := Aside0.mk (KeepBut.trans (by repeat (first | (with_reducible first | exact HK.out | apply bk1 | apply bk2 | apply bk3 | apply bk4 | refine keep_far ?_ GW338.out _ | refine keep_far ?_ GW343.out _ | refine keep_far ?_ GW344.out _) | exact HK.out)) hk (.inl rfl)); have n4_ := Aside0.mk (hb); have n5_ := Aside0.mk (hi); clear BK338 BK343 BK344 HK HB HI0; have BK338 := n0_; have BK343 := n1_; have BK344 := n2_; have HK := n3_; have HB := n4_; have HI0 := n5_; clear n0_ n1_ n2_ n3_ n4_ n5_; (try clear hb); (try clear hb2); (try clear hk); (try clear hi)) | ((with_reducible refine gate_callee (f := 54) rfl ?_); refine goesL_ (some 50) rfl rfl Tryz.func54 (by kernel_rfl) rfl #[.string t348] rfl (am.trans (by rfl)) ?_; (with_reducible refine (lex_Text.calls kj2 t348 t351 t352 _ A39.out).mono ?_); rintro e w83 ⟨rfl, hb⟩; refine ⟨_, rfl, ?_⟩; have n0_ := Aside0.mk (blk_below (g := gb338) (o := .cells #[.string (⟨#[]⟩ : ByteArray), .string (⟨#[]⟩ : ByteArray), .int .i64 0] 35 (0, 0)) (by (with_reducible repeat (first | apply bd1 | apply bd2 | apply bd3)); exact BK338.out) hb); have n1_ := Aside0.mk (blk_below (g := gb343) (o := .cells #[.int .i64 t339, .int .i64 t340, .int .i64 t341] 81 (0, 0)) (by (with_reducible repeat (first | apply bd1 | apply bd2 | apply bd3)); exact BK343.out) hb); have n2_ := Aside0.mk (IsS76.below (by repeat (first | (with_reducible first | exact HI0.out | apply IsS76.alloc | apply IsS76.drewN | apply IsS76.drew | apply IsS76.set_0 | apply IsS76.set_1 | apply IsS76.far (hne := NB0_338.out) | apply IsS76.far (hne := NB0_343.out) | apply IsS76.far (hne := NB0_344.out)) | exact HI0.out)) hb); have n3_ := Aside0.mk (blk_below (g := gb344) (o := .cells #[.string (⟨#[]⟩ : ByteArray), .string (⟨#[]⟩ : ByteArray), .int .i64 t340] 35 (0, 0)) (by (with_reducible repeat (first | apply bd1 | apply bd2 | apply bd3)); exact BK344.out) hb); have n4_ := Aside0.mk (KeepBut.trans (by repeat (first | (with_reducible first | exact HK.out | apply bk1 | apply bk2 | apply bk3 | apply bk4 | refine keep_far ?_ GW338.out _ | refine keep_far ?_ GW343.out _ | refine keep_far ?_ GW344.out _) | exact HK.out)) (KeepBut.of_below hb g none) (.inl rfl)); have n5_ := Aside0.mk (below_step (by repeat (first | (with_reducible first | exact HB.out | apply bw1 | apply bw2 | apply bw3 | refine below_set ?_ (IsS76.ge HI0.out) | refine below_set ?_ GE338.out | refine below_set ?_ GE343.out | refine below_set ?_ GE344.out) | exact HB.out)) hb); clear BK338 BK343 HI0 BK344 HK HB; have BK338 := n0_; have BK343 := n1_; have HI0 := n2_; have BK344 := n3_; have HK := n4_; have HB := n5_; clear n0_ n1_ n2_ n3_ n4_ n5_; (try clear hb); (try clear hb2); (try clear hk); (try clear hi); have hcz84_0 : w83.cell? ⟨gb344, 0, none⟩ = some (.string (⟨#[]⟩ : ByteArray)) := (blk_cell BK344.out 0).trans rfl; have hcz84_1 : w83.cell? ⟨gb344, 1, none⟩ = some (.string (⟨#[]⟩ : ByteArray)) := (blk_cell BK344.out 1).trans rfl; have hcz84_2 : w83.cell? ⟨gb344, 2, none⟩ = some (.int .i64 t340) := (blk_cell BK344.out 2).trans rfl; have hfz84_0 := blk_frozen BK344.out 0; have hfz84_1 := blk_frozen BK344.out 1; have hfz84_2 := blk_frozen BK344.out 2) | ((with_reducible refine gate_callee (f := 55) rfl ?_); refine goesL_ (some 55) rfl rfl Tryz.func55 (by kernel_rfl) rfl #[.pointer (some ⟨g, 0, none⟩), .int .i64 4, .string (⟨#[97, 115]⟩ : ByteArray)] rfl (am.trans (by rfl)) ?_; (with_reducible refine (scan_reader_want.calls kj2 g t349 t350 4 (⟨#[97, 115]⟩ : ByteArray) false t354 t355 t356 t357 t358 w0 _ ?side1 ?side2 A40.out (by first | exact HI.out | exact Inv.below HI.out (by repeat (first | (with_reducible first | exact HB.out | apply bw1 | apply bw2 | apply bw3) | exact HB.out)) | exact Inv.drawn HI.out (by repeat (first | exact Drawn0.refl _ | apply Drawn0.step)))).mono ?_); (case side1 => repeat (first | (with_reducible first | exact HI0.out | apply IsS76.alloc | apply IsS76.drewN | apply IsS76.drew | apply IsS76.set_0 | apply IsS76.set_1 | apply IsS76.far (hne := NB0_338.out) | apply IsS76.far (hne := NB0_343.out) | apply IsS76.far (hne := NB0_344.out)) | exact HI0.out)); (case side2 => repeat (first | (with_reducible first | exact HB.out | apply bw1 | apply bw2 | apply bw3 | refine below_set ?_ (IsS76.ge HI0.out) | refine below_set ?_ GE338.out | refine below_set ?_ GE343.out | refine below_set ?_ GE344.out) | exact HB.out)); rintro e w85 ⟨rfl, hi, hb, hk⟩; refine ⟨_, rfl, ?_⟩; have n0_ := Aside0.mk (KeepBut.blk hk (g' := gb338) (o := .cells #[.string (⟨#[]⟩ : ByteArray), .string (⟨#[]⟩ : ByteArray), .int .i64 0] 35 (0, 0)) (by (with_reducible repeat (first | apply bd1 | apply bd2 | apply bd3)); refine blk_far ?_ NB338_344.out _; (with_reducible repeat (first | apply bd1 | apply bd2 | apply bd3)); exact BK338.out) NB338_0.out (by simp)); have n1_ := Aside0.mk (KeepBut.blk hk (g' := gb343) (o := .cells #[.int .i64 t339, .int .i64 t340, .int .i64 t341] 81 (0, 0)) (by (with_reducible repeat (first | apply bd1 | apply bd2 | apply bd3)); refine blk_far ?_ NB343_344.out _; (with_reducible repeat (first | apply bd1 | apply bd2 | apply bd3)); exact BK343.out) NB343_0.out (by simp)); have n2_ := Aside0.mk (KeepBut.blk hk (g' := gb344) (o := .cells #[.string t351, .string (⟨#[]⟩ : ByteArray), .int .i64 t340] 35 (0, 0)) (by (with_reducible repeat (first | apply bd1 | apply bd2 | apply bd3)); refine blk_put (cs := #[.string (⟨#[]⟩ : ByteArray), .string (⟨#[]⟩ : ByteArray), .int .i64 t340]) ?_ 0 _ rfl; (with_reducible repeat (first | apply bd1 | apply bd2 | apply bd3)); exact BK344.out) NB344_0.out (by simp)); have n3_ := Aside0.mk (KeepBut.trans (by repeat (first | (with_reducible first | exact HK.out | apply bk1 | apply bk2 | apply bk3 | apply bk4 | refine keep_far ?_ GW338.out _ | refine keep_far ?_ GW343.out _ | refine keep_far ?_ GW344.out _) | exact HK.out)) hk (.inl rfl)); have n4_ := Aside0.mk (hb); have n5_ := Aside0.mk (hi); clear BK338 BK343 BK344 HK HB HI0; have BK338 := n0_; have BK343 := n1_; have BK344 := n2_; have HK := n3_; have HB := n4_; have HI0 := n5_; clear n0_ n1_ n2_ n3_ n4_ n5_; (try clear hb); (try clear hb2); (try clear hk); (try clear hi)) | ((with_reducible refine gate_callee (f := 55) rfl ?_); refine goesL_ (some 57) rfl rfl Tryz.func55 (by kernel_rfl) rfl #[.pointer (some ⟨g, 0, none⟩), .int .i64 1, .string (⟨#[]⟩ : ByteArray)] rfl (am.trans (by rfl)) ?_; (with_reducible refine (scan_reader_want.calls kj2 g t357 t358 1 (⟨#[]⟩ : ByteArray) false t360 t361 t362 t363 t364 w0 _ ?side1 ?side2 A55.out (by first | exact HI.out | exact Inv.below HI.out (by repeat (first | (with_reducible first | exact HB.out | apply bw1 | apply bw2 | apply bw3) | exact HB.out)) | exact Inv.drawn HI.out (by repeat (first | exact Drawn0.refl _ | apply Drawn0.step)))).mono ?_); (case side1 => repeat (first | (with_reducible first | exact HI0.out | apply IsS76.alloc | apply IsS76.drewN | apply IsS76.drew | apply IsS76.set_0 | apply IsS76.set_1 | apply IsS76.far (hne := NB0_338.out) | apply IsS76.far (hne := NB0_343.out) | apply IsS76.far (hne := NB0_344.out)) | exact HI0.out)); (case side2 => repeat (first | (with_reducible first | exact HB.out | apply bw1 | apply bw2 | apply bw3 | refine below_set ?_ (IsS76.ge HI0.out) | refine below_set ?_ GE338.out | refine below_set ?_ GE343.out | refine below_set ?_ GE344.out) | exact HB.out)); rintro e w86 ⟨rfl, hi, hb, hk⟩; refine ⟨_, rfl, ?_⟩; have n0_ := Aside0.mk (KeepBut.blk hk (g' := gb338) (o := .cells #[.string (⟨#[]⟩ : ByteArray), .string (⟨#[]⟩ : ByteArray), .int .i64 0] 35 (0, 0)) (by (with_reducible repeat (first | apply bd1 | apply bd2 | apply bd3)); exact BK338.out) NB338_0.out (by simp)); have n1_ := Aside0.mk (KeepBut.blk hk (g' := gb343) (o := .cells #[.int .i64 t339, .int .i64 t340, .int .i64 t341] 81 (0, 0)) (by (with_reducible repeat (first | apply bd1 | apply bd2 | apply bd3)); exact BK343.out) NB343_0.out (by simp)); have n2_ := Aside0.mk (KeepBut.blk hk (g' := gb344) (o := .cells #[.string t351, .string (⟨#[]⟩ : ByteArray), .int .i64 t340] 35 (0, 0)) (by (with_reducible repeat (first | apply bd1 | apply bd2 | apply bd3)); exact BK344.out) NB344_0.out (by simp)); have n3_ := Aside0.mk (KeepBut.trans (by repeat (first | (with_reducible first | exact HK.out | apply bk1 | apply bk2 | apply bk3 | apply bk4 | refine keep_far ?_ GW338.out _ | refine keep_far ?_ GW343.out _ | refine keep_far ?_ GW344.out _) | exact HK.out)) hk (.inl rfl)); have n4_ := Aside0.mk (hb); have n5_ := Aside0.mk (hi); clear BK338 BK343 BK344 HK HB HI0; have BK338 := n0_; have BK343 := n1_; have BK344 := n2_; have HK := n3_; have HB := n4_; have HI0 := n5_; clear n0_ n1_ n2_ n3_ n4_ n5_; (try clear hb); (try clear hb2); (try clear hk); (try clear hi); have hcz87_0 : w86.cell? ⟨gb344, 0, none⟩ = some (.string t351) := (blk_cell BK344.out 0).trans rfl; have hcz87_1 : w86.cell? ⟨gb344, 1, none⟩ = some (.string (⟨#[]⟩ : ByteArray)) := (blk_cell BK344.out 1).trans rfl; have hcz87_2 : w86.cell? ⟨gb344, 2, none⟩ = some (.int .i64 t340) := (blk_cell BK344.out 2).trans rfl; have hfz87_0 := blk_frozen BK344.out 0; have hfz87_1 := blk_frozen BK344.out 1; have hfz87_2 := blk_frozen BK344.out 2) | ((with_reducible refine gate_callee (f := 55) rfl ?_); refine goesP_ (some 60) rfl rfl Tryz.func55 (by kernel_rfl) rfl #[.pointer (some ⟨g, 0, none⟩), .int .i64 5, .string (⟨#[59]⟩ : ByteArray)] rfl (am.trans (by rfl)) ?_; (with_reducible refine (scan_reader_want.calls kj2 g t363 t364 5 (⟨#[59]⟩ : ByteArray) true t366 t367 t368 t369 t370 w0 _ ?side1 ?side2 A71.out (by first | exact HI.out | exact Inv.below HI.out (by repeat (first | (with_reducible first | exact HB.out | apply bw1 | apply bw2 | apply bw3) | exact HB.out)) | exact Inv.drawn HI.out (by repeat (first | exact Drawn0.refl _ | apply Drawn0.step)))).mono ?_); (case side1 => repeat (first | (with_reducible first | exact HI0.out | apply IsS76.alloc | apply IsS76.drewN | apply IsS76.drew | apply IsS76.set_0 | apply IsS76.set_1 | apply IsS76.far (hne := NB0_338.out) | apply IsS76.far (hne := NB0_343.out) | apply IsS76.far (hne := NB0_344.out)) | exact HI0.out)); (case side2 => repeat (first | (with_reducible first | exact HB.out | apply bw1 | apply bw2 | apply bw3 | refine below_set ?_ (IsS76.ge HI0.out) | refine below_set ?_ GE338.out | refine below_set ?_ GE343.out | refine below_set ?_ GE344.out) | exact HB.out)); rintro e w88 ⟨rfl, hi, hb, hk⟩; refine ⟨_, rfl, ?_⟩; have n0_ := Aside0.mk (KeepBut.blk hk (g' := gb338) (o := .cells #[.string (⟨#[]⟩ : ByteArray), .string (⟨#[]⟩ : ByteArray), .int .i64 0] 35 (0, 0)) (by (with_reducible repeat (first | apply bd1 | apply bd2 | apply bd3)); refine blk_far ?_ NB338_344.out _; (with_reducible repeat (first | apply bd1 | apply bd2 | apply bd3)); exact BK338.out) NB338_0.out (by simp)); have n1_ := Aside0.mk (KeepBut.blk hk (g' := gb343) (o := .cells #[.int .i64 t339, .int .i64 t340, .int .i64 t341] 81 (0, 0)) (by (with_reducible repeat (first | apply bd1 | apply bd2 | apply bd3)); refine blk_far ?_ NB343_344.out _; (with_reducible repeat (first | apply bd1 | apply bd2 | apply bd3)); exact BK343.out) NB343_0.out (by simp)); have n2_ := Aside0.mk (KeepBut.blk hk (g' := gb344) (o := .cells #[.string t351, .string t362, .int .i64 t340] 35 (0, 0)) (by (with_reducible repeat (first | apply bd1 | apply bd2 | apply bd3)); refine blk_put (cs := #[.string t351, .string (⟨#[]⟩ : ByteArray), .int .i64 t340]) ?_ 1 _ rfl; (with_reducible repeat (first | apply bd1 | apply bd2 | apply bd3)); exact BK344.out) NB344_0.out (by simp)); have n3_ := Aside0.mk (KeepBut.trans (by repeat (first | (with_reducible first | exact HK.out | apply bk1 | apply bk2 | apply bk3 | apply bk4 | refine keep_far ?_ GW338.out _ | refine keep_far ?_ GW343.out _ | refine keep_far ?_ GW344.out _) | exact HK.out)) hk (.inl rfl)); have n4_ := Aside0.mk (hb); have n5_ := Aside0.mk (hi); clear BK338 BK343 BK344 HK HB HI0; have BK338 := n0_; have BK343 := n1_; have BK344 := n2_; have HK := n3_; have HB := n4_; have HI0 := n5_; clear n0_ n1_ n2_ n3_ n4_ n5_; (try clear hb); (try clear hb2); (try clear hk); (try clear hi)))
        refine bodyPost_panic rfl ?_
        exact ⟨by first | rfl | (simp [*, errW_none, errW_some] <;> rfl), by repeat (first | (with_reducible first | exact HI0.out | apply IsS76.alloc | apply IsS76.drewN | apply IsS76.drew | apply IsS76.set_0 | apply IsS76.set_1 | apply IsS76.far (hne := NB0_338.out) | apply IsS76.far (hne := NB0_343.out) | apply IsS76.far (hne := NB0_344.out)) | exact HI0.out), by repeat (first | (with_reducible first | exact HB.out | apply bw1 | apply bw2 | apply bw3 | refine below_set ?_ (IsS76.ge HI0.out) | refine below_set ?_ GE338.out | refine below_set ?_ GE343.out | refine below_set ?_ GE344.out) | exact HB.out), by repeat (first | (with_reducible first | exact HK.out | apply bk1 | apply bk2 | apply bk3 | apply bk4 | refine keep_far ?_ GW338.out _ | refine keep_far ?_ GW343.out _ | refine keep_far ?_ GW344.out _) | exact HK.out)⟩
       ·replace c72 := Bool.eq_false_iff.mpr c72
        subst c72
        have H1 : (some (false, 0, 0, t351, t362, t340, true, t369, t370)) = some (r1, r2, r3, r4, r5, r6, r7, r8, r9) := by rw [if_neg (show ¬ (false = true) by decide)] at H; exact H
        clear H
        have H := H1
        clear H1
        simp only [Option.some.injEq, Prod.mk.injEq] at H
        obtain ⟨rfl, rfl, rfl, rfl, rfl, rfl, rfl, rfl, rfl⟩ := H
        have hnb89 := NB343_338.out
        have hnc89 := NB338_343.out
        have hnb90 := NB343_0.out
        have hnc90 := NB0_343.out
        have hcz91_0 : wc.cell? ⟨gb343, 0, none⟩ = some (.int .i64 t339) := (blk_cell BK343.out 0).trans rfl
        have hcz91_1 : wc.cell? ⟨gb343, 1, none⟩ = some (.int .i64 t340) := (blk_cell BK343.out 1).trans rfl
        have hcz91_2 : wc.cell? ⟨gb343, 2, none⟩ = some (.int .i64 t341) := (blk_cell BK343.out 2).trans rfl
        have hfz91_0 := blk_frozen BK343.out 0
        have hfz91_1 := blk_frozen BK343.out 1
        have hfz91_2 := blk_frozen BK343.out 2
        obtain ⟨HGz92, hgz92⟩ := HI0.out
        have hcz92_0 := cellS76_0 HGz92
        have hcz92_1 := cellS76_1 HGz92
        have hfz92_0 := blk_frozen HGz92 0
        have hfz92_1 := blk_frozen HGz92 1
        clear HGz92 hgz92
        go_wp2_with (first | ((with_reducible refine gate_dst (N := 6) rfl ?_); refine box_event ?hg (N := 6) ?hd (cs := #[.string (⟨#[]⟩ : ByteArray), .string (⟨#[]⟩ : ByteArray), .int .i64 0]) (t := 35) ?hr ?_; (case hd => rfl); (case hg => rfl); (case hr => first | (go_simp; done) | (go_simp; rfl)); intro gb344 hg w93 hbox hb; have n0_ := Aside0.mk (blk_below (g := gb338) (o := .cells #[.string (⟨#[]⟩ : ByteArray), .string (⟨#[]⟩ : ByteArray), .int .i64 0] 35 (0, 0)) (by (with_reducible repeat (first | apply bd1 | apply bd2 | apply bd3)); refine blk_far ?_ NB338_0.out _; (with_reducible repeat (first | apply bd1 | apply bd2 | apply bd3)); exact BK338.out) hb); have n1_ := Aside0.mk (blk_below (g := gb343) (o := .cells #[.int .i64 t339, .int .i64 t340, .int .i64 t341] 81 (0, 0)) (by (with_reducible repeat (first | apply bd1 | apply bd2 | apply bd3)); refine blk_far ?_ NB343_0.out _; (with_reducible repeat (first | apply bd1 | apply bd2 | apply bd3)); exact BK343.out) hb); have n2_ := Aside0.mk (IsS76.below (show IsS76 w0 (wc.setCell ⟨g, 1, none⟩ (.int .i64 t341)) g s0_0 t341 from by repeat (first | (with_reducible first | exact HI0.out | apply IsS76.alloc | apply IsS76.drewN | apply IsS76.drew | apply IsS76.set_0 | apply IsS76.set_1 | apply IsS76.far (hne := NB0_338.out) | apply IsS76.far (hne := NB0_343.out)) | exact HI0.out)) hb); have n3_ := Aside0.mk (KeepBut.trans (by repeat (first | (with_reducible first | exact HK.out | apply bk1 | apply bk2 | apply bk3 | apply bk4 | refine keep_far ?_ GW338.out _ | refine keep_far ?_ GW343.out _) | exact HK.out)) (KeepBut.of_below hb g none) (.inl rfl)); have n4_ := Aside0.mk (below_step (by repeat (first | (with_reducible first | exact HB.out | apply bw1 | apply bw2 | apply bw3 | refine below_set ?_ (IsS76.ge HI0.out) | refine below_set ?_ GE338.out | refine below_set ?_ GE343.out) | exact HB.out)) hb); have n5_ := Aside0.mk (hbox); have n6_ := Aside0.mk ((by rw [hg]; exact (keep_size (w := w) (g := g) (row := none) (by repeat (first | (with_reducible first | exact HK.out | apply bk1 | apply bk2 | apply bk3 | apply bk4 | refine keep_far ?_ GW338.out _ | refine keep_far ?_ GW343.out _) | exact HK.out))) : w.heap.size ≤ gb344)); have n7_ := Aside0.mk ((Nat.le_trans HW0.out n6_.out : w0.heap.size ≤ gb344)); have n8_ := Aside0.mk ((by rw [hg]; exact Nat.ne_of_lt (blk_lt (g := gb338) (o := .cells #[.string (⟨#[]⟩ : ByteArray), .string (⟨#[]⟩ : ByteArray), .int .i64 0] 35 (0, 0)) (by (with_reducible repeat (first | apply bd1 | apply bd2 | apply bd3)); refine blk_far ?_ NB338_0.out _; (with_reducible repeat (first | apply bd1 | apply bd2 | apply bd3)); exact BK338.out)) : gb338 ≠ gb344)); have n9_ := Aside0.mk (Ne.symm n8_.out); have n10_ := Aside0.mk ((by rw [hg]; exact Nat.ne_of_lt (blk_lt (g := gb343) (o := .cells #[.int .i64 t339, .int .i64 t340, .int .i64 t341] 81 (0, 0)) (by (with_reducible repeat (first | apply bd1 | apply bd2 | apply bd3)); refine blk_far ?_ NB343_0.out _; (with_reducible repeat (first | apply bd1 | apply bd2 | apply bd3)); exact BK343.out)) : gb343 ≠ gb344)); have n11_ := Aside0.mk (Ne.symm n10_.out); have n12_ := Aside0.mk ((by rw [hg]; exact Nat.ne_of_lt (IsS76.lt (show IsS76 w0 _ g s0_0 t341 from by repeat (first | (with_reducible first | exact HI0.out | apply IsS76.alloc | apply IsS76.drewN | apply IsS76.drew | apply IsS76.set_0 | apply IsS76.set_1 | apply IsS76.far (hne := NB0_338.out) | apply IsS76.far (hne := NB0_343.out)) | exact HI0.out))) : g ≠ gb344)); have n13_ := Aside0.mk (Ne.symm n12_.out); clear BK338 BK343 HI0 HK HB; have BK338 := n0_; have BK343 := n1_; have HI0 := n2_; have HK := n3_; have HB := n4_; have BK344 := n5_; have GW344 := n6_; have GE344 := n7_; have NB338_344 := n8_; have NB344_338 := n9_; have NB343_344 := n10_; have NB344_343 := n11_; have NB0_344 := n12_; have NB344_0 := n13_; clear n0_ n1_ n2_ n3_ n4_ n5_ n6_ n7_ n8_ n9_ n10_ n11_ n12_ n13_; clear hb hbox hg; have hnb94 := NB344_338.out; have hnc94 := NB338_344.out; have hnb95 := NB344_343.out; have hnc95 := NB343_344.out; have hnb96 := NB344_0.out; have hnc96 := NB0_344.out; have hcz97_0 : w93.cell? ⟨gb344, 0, none⟩ = some (.string (⟨#[]⟩ : ByteArray)) := (blk_cell BK344.out 0).trans rfl; have hcz97_1 : w93.cell? ⟨gb344, 1, none⟩ = some (.string (⟨#[]⟩ : ByteArray)) := (blk_cell BK344.out 1).trans rfl; have hcz97_2 : w93.cell? ⟨gb344, 2, none⟩ = some (.int .i64 0) := (blk_cell BK344.out 2).trans rfl; have hfz97_0 := blk_frozen BK344.out 0; have hfz97_1 := blk_frozen BK344.out 1; have hfz97_2 := blk_frozen BK344.out 2) | ((with_reducible refine gate_callee (f := 55) rfl ?_); refine goesL_ (some 49) rfl rfl Tryz.func55 (by kernel_rfl) rfl #[.pointer (some ⟨g, 0, none⟩), .int .i64 3, .string (⟨#[]⟩ : ByteArray)] rfl (am.trans (by rfl)) ?_; (with_reducible refine (scan_reader_want.calls kj2 g s0_0 t341 3 (⟨#[]⟩ : ByteArray) false t346 t347 t348 t349 t350 w0 _ ?side1 ?side2 A27.out (by first | exact HI.out | exact Inv.below HI.out (by repeat (first | (with_reducible first | exact HB.out | apply bw1 | apply bw2 | apply bw3 | refine below_set ?_ (IsS76.ge HI0.out) | refine below_set ?_ GE338.out | refine below_set ?_ GE343.out | refine below_set ?_ GE344.out) | exact HB.out)) | exact Inv.drawn HI.out (by repeat (first | exact Drawn0.refl _ | apply Drawn0.step)))).mono ?_); (case side1 => repeat (first | (with_reducible first | exact HI0.out | apply IsS76.alloc | apply IsS76.drewN | apply IsS76.drew | apply IsS76.set_0 | apply IsS76.set_1 | apply IsS76.far (hne := NB0_338.out) | apply IsS76.far (hne := NB0_343.out) | apply IsS76.far (hne := NB0_344.out)) | exact HI0.out)); (case side2 => repeat (first | (with_reducible first | exact HB.out | apply bw1 | apply bw2 | apply bw3 | refine below_set ?_ (IsS76.ge HI0.out) | refine below_set ?_ GE338.out | refine below_set ?_ GE343.out | refine below_set ?_ GE344.out) | exact HB.out)); rintro e w98 ⟨rfl, hi, hb, hk⟩; refine ⟨_, rfl, ?_⟩; have n0_ := Aside0.mk (KeepBut.blk hk (g' := gb338) (o := .cells #[.string (⟨#[]⟩ : ByteArray), .string (⟨#[]⟩ : ByteArray), .int .i64 0] 35 (0, 0)) (by (with_reducible repeat (first | apply bd1 | apply bd2 | apply bd3)); refine blk_far ?_ NB338_344.out _; (with_reducible repeat (first | apply bd1 | apply bd2 | apply bd3)); refine blk_far ?_ NB338_344.out _; (with_reducible repeat (first | apply bd1 | apply bd2 | apply bd3)); refine blk_far ?_ NB338_344.out _; (with_reducible repeat (first | apply bd1 | apply bd2 | apply bd3)); exact BK338.out) NB338_0.out (by simp)); have n1_ := Aside0.mk (KeepBut.blk hk (g' := gb343) (o := .cells #[.int .i64 t339, .int .i64 t340, .int .i64 t341] 81 (0, 0)) (by (with_reducible repeat (first | apply bd1 | apply bd2 | apply bd3)); refine blk_far ?_ NB343_344.out _; (with_reducible repeat (first | apply bd1 | apply bd2 | apply bd3)); refine blk_far ?_ NB343_344.out _; (with_reducible repeat (first | apply bd1 | apply bd2 | apply bd3)); refine blk_far ?_ NB343_344.out _; (with_reducible repeat (first | apply bd1 | apply bd2 | apply bd3)); exact BK343.out) NB343_0.out (by simp)); have n2_ := Aside0.mk (KeepBut.blk hk (g' := gb344) (o := .cells #[.string (⟨#[]⟩ : ByteArray), .string (⟨#[]⟩ : ByteArray), .int .i64 t340] 35 (0, 0)) (by (with_reducible repeat (first | apply bd1 | apply bd2 | apply bd3)); refine blk_put (cs := #[.string (⟨#[]⟩ : ByteArray), .string (⟨#[]⟩ : ByteArray), .int .i64 0]) ?_ 2 _ rfl; (with_reducible repeat (first | apply bd1 | apply bd2 | apply bd3)); refine blk_put (cs := #[.string (⟨#[]⟩ : ByteArray), .string (⟨#[]⟩ : ByteArray), .int .i64 0]) ?_ 1 _ rfl; (with_reducible repeat (first | apply bd1 | apply bd2 | apply bd3)); refine blk_put (cs := #[.string (⟨#[]⟩ : ByteArray), .string (⟨#[]⟩ : ByteArray), .int .i64 0]) ?_ 0 _ rfl; (with_reducible repeat (first | apply bd1 | apply bd2 | apply bd3)); exact BK344.out) NB344_0.out (by simp)); have n3_ := Aside0.mk (KeepBut.trans (by repeat (first | (with_reducible first | exact HK.out | apply bk1 | apply bk2 | apply bk3 | apply bk4 | refine keep_far ?_ GW338.out _ | refine keep_far ?_ GW343.out _ | refine keep_far ?_ GW344.out _) | exact HK.out)) hk (.inl rfl)); have n4_ := Aside0.mk (hb); have n5_ := Aside0.mk (hi); clear BK338 BK343 BK344 HK HB HI0; have BK338 := n0_; have BK343 := n1_; have BK344 := n2_; have HK := n3_; have HB := n4_; have HI0 := n5_; clear n0_ n1_ n2_ n3_ n4_ n5_; (try clear hb); (try clear hb2); (try clear hk); (try clear hi)) | ((with_reducible refine gate_callee (f := 54) rfl ?_); refine goesL_ (some 50) rfl rfl Tryz.func54 (by kernel_rfl) rfl #[.string t348] rfl (am.trans (by rfl)) ?_; (with_reducible refine (lex_Text.calls kj2 t348 t351 t352 _ A39.out).mono ?_); rintro e w99 ⟨rfl, hb⟩; refine ⟨_, rfl, ?_⟩; have n0_ := Aside0.mk (blk_below (g := gb338) (o := .cells #[.string (⟨#[]⟩ : ByteArray), .string (⟨#[]⟩ : ByteArray), .int .i64 0] 35 (0, 0)) (by (with_reducible repeat (first | apply bd1 | apply bd2 | apply bd3)); exact BK338.out) hb); have n1_ := Aside0.mk (blk_below (g := gb343) (o := .cells #[.int .i64 t339, .int .i64 t340, .int .i64 t341] 81 (0, 0)) (by (with_reducible repeat (first | apply bd1 | apply bd2 | apply bd3)); exact BK343.out) hb); have n2_ := Aside0.mk (IsS76.below (by repeat (first | (with_reducible first | exact HI0.out | apply IsS76.alloc | apply IsS76.drewN | apply IsS76.drew | apply IsS76.set_0 | apply IsS76.set_1 | apply IsS76.far (hne := NB0_338.out) | apply IsS76.far (hne := NB0_343.out) | apply IsS76.far (hne := NB0_344.out)) | exact HI0.out)) hb); have n3_ := Aside0.mk (blk_below (g := gb344) (o := .cells #[.string (⟨#[]⟩ : ByteArray), .string (⟨#[]⟩ : ByteArray), .int .i64 t340] 35 (0, 0)) (by (with_reducible repeat (first | apply bd1 | apply bd2 | apply bd3)); exact BK344.out) hb); have n4_ := Aside0.mk (KeepBut.trans (by repeat (first | (with_reducible first | exact HK.out | apply bk1 | apply bk2 | apply bk3 | apply bk4 | refine keep_far ?_ GW338.out _ | refine keep_far ?_ GW343.out _ | refine keep_far ?_ GW344.out _) | exact HK.out)) (KeepBut.of_below hb g none) (.inl rfl)); have n5_ := Aside0.mk (below_step (by repeat (first | (with_reducible first | exact HB.out | apply bw1 | apply bw2 | apply bw3 | refine below_set ?_ (IsS76.ge HI0.out) | refine below_set ?_ GE338.out | refine below_set ?_ GE343.out | refine below_set ?_ GE344.out) | exact HB.out)) hb); clear BK338 BK343 HI0 BK344 HK HB; have BK338 := n0_; have BK343 := n1_; have HI0 := n2_; have BK344 := n3_; have HK := n4_; have HB := n5_; clear n0_ n1_ n2_ n3_ n4_ n5_; (try clear hb); (try clear hb2); (try clear hk); (try clear hi); have hcz100_0 : w99.cell? ⟨gb344, 0, none⟩ = some (.string (⟨#[]⟩ : ByteArray)) := (blk_cell BK344.out 0).trans rfl; have hcz100_1 : w99.cell? ⟨gb344, 1, none⟩ = some (.string (⟨#[]⟩ : ByteArray)) := (blk_cell BK344.out 1).trans rfl; have hcz100_2 : w99.cell? ⟨gb344, 2, none⟩ = some (.int .i64 t340) := (blk_cell BK344.out 2).trans rfl; have hfz100_0 := blk_frozen BK344.out 0; have hfz100_1 := blk_frozen BK344.out 1; have hfz100_2 := blk_frozen BK344.out 2) | ((with_reducible refine gate_callee (f := 55) rfl ?_); refine goesL_ (some 55) rfl rfl Tryz.func55 (by kernel_rfl) rfl #[.pointer (some ⟨g, 0, none⟩), .int .i64 4, .string (⟨#[97, 115]⟩ : ByteArray)] rfl (am.trans (by rfl)) ?_; (with_reducible refine (scan_reader_want.calls kj2 g t349 t350 4 (⟨#[97, 115]⟩ : ByteArray) false t354 t355 t356 t357 t358 w0 _ ?side1 ?side2 A40.out (by first | exact HI.out | exact Inv.below HI.out (by repeat (first | (with_reducible first | exact HB.out | apply bw1 | apply bw2 | apply bw3) | exact HB.out)) | exact Inv.drawn HI.out (by repeat (first | exact Drawn0.refl _ | apply Drawn0.step)))).mono ?_); (case side1 => repeat (first | (with_reducible first | exact HI0.out | apply IsS76.alloc | apply IsS76.drewN | apply IsS76.drew | apply IsS76.set_0 | apply IsS76.set_1 | apply IsS76.far (hne := NB0_338.out) | apply IsS76.far (hne := NB0_343.out) | apply IsS76.far (hne := NB0_344.out)) | exact HI0.out)); (case side2 => repeat (first | (with_reducible first | exact HB.out | apply bw1 | apply bw2 | apply bw3 | refine below_set ?_ (IsS76.ge HI0.out) | refine below_set ?_ GE338.out | refine below_set ?_ GE343.out | refine below_set ?_ GE344.out) | exact HB.out)); rintro e w101 ⟨rfl, hi, hb, hk⟩; refine ⟨_, rfl, ?_⟩; have n0_ := Aside0.mk (KeepBut.blk hk (g' := gb338) (o := .cells #[.string (⟨#[]⟩ : ByteArray), .string (⟨#[]⟩ : ByteArray), .int .i64 0] 35 (0, 0)) (by (with_reducible repeat (first | apply bd1 | apply bd2 | apply bd3)); refine blk_far ?_ NB338_344.out _; (with_reducible repeat (first | apply bd1 | apply bd2 | apply bd3)); exact BK338.out) NB338_0.out (by simp)); have n1_ := Aside0.mk (KeepBut.blk hk (g' := gb343) (o := .cells #[.int .i64 t339, .int .i64 t340, .int .i64 t341] 81 (0, 0)) (by (with_reducible repeat (first | apply bd1 | apply bd2 | apply bd3)); refine blk_far ?_ NB343_344.out _; (with_reducible repeat (first | apply bd1 | apply bd2 | apply bd3)); exact BK343.out) NB343_0.out (by simp)); have n2_ := Aside0.mk (KeepBut.blk hk (g' := gb344) (o := .cells #[.string t351, .string (⟨#[]⟩ : ByteArray), .int .i64 t340] 35 (0, 0)) (by (with_reducible repeat (first | apply bd1 | apply bd2 | apply bd3)); refine blk_put (cs := #[.string (⟨#[]⟩ : ByteArray), .string (⟨#[]⟩ : ByteArray), .int .i64 t340]) ?_ 0 _ rfl; (with_reducible repeat (first | apply bd1 | apply bd2 | apply bd3)); exact BK344.out) NB344_0.out (by simp)); have n3_ := Aside0.mk (KeepBut.trans (by repeat (first | (with_reducible first | exact HK.out | apply bk1 | apply bk2 | apply bk3 | apply bk4 | refine keep_far ?_ GW338.out _ | refine keep_far ?_ GW343.out _ | refine keep_far ?_ GW344.out _) | exact HK.out)) hk (.inl rfl)); have n4_ := Aside0.mk (hb); have n5_ := Aside0.mk (hi); clear BK338 BK343 BK344 HK HB HI0; have BK338 := n0_; have BK343 := n1_; have BK344 := n2_; have HK := n3_; have HB := n4_; have HI0 := n5_; clear n0_ n1_ n2_ n3_ n4_ n5_; (try clear hb); (try clear hb2); (try clear hk); (try clear hi)) | ((with_reducible refine gate_callee (f := 55) rfl ?_); refine goesL_ (some 57) rfl rfl Tryz.func55 (by kernel_rfl) rfl #[.pointer (some ⟨g, 0, none⟩), .int .i64 1, .string (⟨#[]⟩ : ByteArray)] rfl (am.trans (by rfl)) ?_; (with_reducible refine (scan_reader_want.calls kj2 g t357 t358 1 (⟨#[]⟩ : ByteArray) false t360 t361 t362 t363 t364 w0 _ ?side1 ?side2 A55.out (by first | exact HI.out | exact Inv.below HI.out (by repeat (first | (with_reducible first | exact HB.out | apply bw1 | apply bw2 | apply bw3) | exact HB.out)) | exact Inv.drawn HI.out (by repeat (first | exact Drawn0.refl _ | apply Drawn0.step)))).mono ?_); (case side1 => repeat (first | (with_reducible first | exact HI0.out | apply IsS76.alloc | apply IsS76.drewN | apply IsS76.drew | apply IsS76.set_0 | apply IsS76.set_1 | apply IsS76.far (hne := NB0_338.out) | apply IsS76.far (hne := NB0_343.out) | apply IsS76.far (hne := NB0_344.out)) | exact HI0.out)); (case side2 => repeat (first | (with_reducible first | exact HB.out | apply bw1 | apply bw2 | apply bw3 | refine below_set ?_ (IsS76.ge HI0.out) | refine below_set ?_ GE338.out | refine below_set ?_ GE343.out | refine below_set ?_ GE344.out) | exact HB.out)); rintro e w102 ⟨rfl, hi, hb, hk⟩; refine ⟨_, rfl, ?_⟩; have n0_ := Aside0.mk (KeepBut.blk hk (g' := gb338) (o := .cells #[.string (⟨#[]⟩ : ByteArray), .string (⟨#[]⟩ : ByteArray), .int .i64 0] 35 (0, 0)) (by (with_reducible repeat (first | apply bd1 | apply bd2 | apply bd3)); exact BK338.out) NB338_0.out (by simp)); have n1_ := Aside0.mk (KeepBut.blk hk (g' := gb343) (o := .cells #[.int .i64 t339, .int .i64 t340, .int .i64 t341] 81 (0, 0)) (by (with_reducible repeat (first | apply bd1 | apply bd2 | apply bd3)); exact BK343.out) NB343_0.out (by simp)); have n2_ := Aside0.mk (KeepBut.blk hk (g' := gb344) (o := .cells #[.string t351, .string (⟨#[]⟩ : ByteArray), .int .i64 t340] 35 (0, 0)) (by (with_reducible repeat (first | apply bd1 | apply bd2 | apply bd3)); exact BK344.out) NB344_0.out (by simp)); have n3_ := Aside0.mk (KeepBut.trans (by repeat (first | (with_reducible first | exact HK.out | apply bk1 | apply bk2 | apply bk3 | apply bk4 | refine keep_far ?_ GW338.out _ | refine keep_far ?_ GW343.out _ | refine keep_far ?_ GW344.out _) | exact HK.out)) hk (.inl rfl)); have n4_ := Aside0.mk (hb); have n5_ := Aside0.mk (hi); clear BK338 BK343 BK344 HK HB HI0; have BK338 := n0_; have BK343 := n1_; have BK344 := n2_; have HK := n3_; have HB := n4_; have HI0 := n5_; clear n0_ n1_ n2_ n3_ n4_ n5_; (try clear hb); (try clear hb2); (try clear hk); (try clear hi); have hcz103_0 : w102.cell? ⟨gb344, 0, none⟩ = some (.string t351) := (blk_cell BK344.out 0).trans rfl; have hcz103_1 : w102.cell? ⟨gb344, 1, none⟩ = some (.string (⟨#[]⟩ : ByteArray)) := (blk_cell BK344.out 1).trans rfl; have hcz103_2 : w102.cell? ⟨gb344, 2, none⟩ = some (.int .i64 t340) := (blk_cell BK344.out 2).trans rfl; have hfz103_0 := blk_frozen BK344.out 0; have hfz103_1 := blk_frozen BK344.out 1; have hfz103_2 := blk_frozen BK344.out 2) | ((with_reducible refine gate_callee (f := 55) rfl ?_); refine goesL_ (some 60) rfl rfl Tryz.func55 (by kernel_rfl) rfl #[.pointer (some ⟨g, 0, none⟩), .int .i64 5, .string (⟨#[59]⟩ : ByteArray)] rfl (am.trans (by rfl)) ?_; (with_reducible refine (scan_reader_want.calls kj2 g t363 t364 5 (⟨#[59]⟩ : ByteArray) false t366 t367 t368 t369 t370 w0 _ ?side1 ?side2 A71.out (by first | exact HI.out | exact Inv.below HI.out (by repeat (first | (with_reducible first | exact HB.out | apply bw1 | apply bw2 | apply bw3) | exact HB.out)) | exact Inv.drawn HI.out (by repeat (first | exact Drawn0.refl _ | apply Drawn0.step)))).mono ?_); (case side1 => repeat (first | (with_reducible first | exact HI0.out | apply IsS76.alloc | apply IsS76.drewN | apply IsS76.drew | apply IsS76.set_0 | apply IsS76.set_1 | apply IsS76.far (hne := NB0_338.out) | apply IsS76.far (hne := NB0_343.out) | apply IsS76.far (hne := NB0_344.out)) | exact HI0.out)); (case side2 => repeat (first | (with_reducible first | exact HB.out | apply bw1 | apply bw2 | apply bw3 | refine below_set ?_ (IsS76.ge HI0.out) | refine below_set ?_ GE338.out | refine below_set ?_ GE343.out | refine below_set ?_ GE344.out) | exact HB.out)); rintro e w104 ⟨rfl, hi, hb, hk⟩; refine ⟨_, rfl, ?_⟩; have n0_ := Aside0.mk (KeepBut.blk hk (g' := gb338) (o := .cells #[.string (⟨#[]⟩ : ByteArray), .string (⟨#[]⟩ : ByteArray), .int .i64 0] 35 (0, 0)) (by (with_reducible repeat (first | apply bd1 | apply bd2 | apply bd3)); refine blk_far ?_ NB338_344.out _; (with_reducible repeat (first | apply bd1 | apply bd2 | apply bd3)); exact BK338.out) NB338_0.out (by simp)); have n1_ := Aside0.mk (KeepBut.blk hk (g' := gb343) (o := .cells #[.int .i64 t339, .int .i64 t340, .int .i64 t341] 81 (0, 0)) (by (with_reducible repeat (first | apply bd1 | apply bd2 | apply bd3)); refine blk_far ?_ NB343_344.out _; (with_reducible repeat (first | apply bd1 | apply bd2 | apply bd3)); exact BK343.out) NB343_0.out (by simp)); have n2_ := Aside0.mk (KeepBut.blk hk (g' := gb344) (o := .cells #[.string t351, .string t362, .int .i64 t340] 35 (0, 0)) (by (with_reducible repeat (first | apply bd1 | apply bd2 | apply bd3)); refine blk_put (cs := #[.string t351, .string (⟨#[]⟩ : ByteArray), .int .i64 t340]) ?_ 1 _ rfl; (with_reducible repeat (first | apply bd1 | apply bd2 | apply bd3)); exact BK344.out) NB344_0.out (by simp)); have n3_ := Aside0.mk (KeepBut.trans (by repeat (first | (with_reducible first | exact HK.out | apply bk1 | apply bk2 | apply bk3 | apply bk4 | refine keep_far ?_ GW338.out _ | refine keep_far ?_ GW343.out _ | refine keep_far ?_ GW344.out _) | exact HK.out)) hk (.inl rfl)); have n4_ := Aside0.mk (hb); have n5_ := Aside0.mk (hi); clear BK338 BK343 BK344 HK HB HI0; have BK338 := n0_; have BK343 := n1_; have BK344 := n2_; have HK := n3_; have HB := n4_; have HI0 := n5_; clear n0_ n1_ n2_ n3_ n4_ n5_; (try clear hb); (try clear hb2); (try clear hk); (try clear hi); have hcz105_0 : w104.cell? ⟨gb344, 0, none⟩ = some (.string t351) := (blk_cell BK344.out 0).trans rfl; have hcz105_1 : w104.cell? ⟨gb344, 1, none⟩ = some (.string t362) := (blk_cell BK344.out 1).trans rfl; have hcz105_2 : w104.cell? ⟨gb344, 2, none⟩ = some (.int .i64 t340) := (blk_cell BK344.out 2).trans rfl; have hfz105_0 := blk_frozen BK344.out 0; have hfz105_1 := blk_frozen BK344.out 1; have hfz105_2 := blk_frozen BK344.out 2; have hnb106 := NB338_0.out; have hnc106 := NB0_338.out; have hcz107_0 : w104.cell? ⟨gb338, 0, none⟩ = some (.string (⟨#[]⟩ : ByteArray)) := (blk_cell BK338.out 0).trans rfl; have hcz107_1 : w104.cell? ⟨gb338, 1, none⟩ = some (.string (⟨#[]⟩ : ByteArray)) := (blk_cell BK338.out 1).trans rfl; have hcz107_2 : w104.cell? ⟨gb338, 2, none⟩ = some (.int .i64 0) := (blk_cell BK338.out 2).trans rfl; have hfz107_0 := blk_frozen BK338.out 0; have hfz107_1 := blk_frozen BK338.out 1; have hfz107_2 := blk_frozen BK338.out 2))
        refine bodyPost_ret (results_ct rfl _ _ gb338 35 #[.string t351, .string t362, .int .i64 t340] (0, 0) _ rfl (by (with_reducible repeat (first | apply bd1 | apply bd2 | apply bd3)); refine blk_put (cs := #[.string t351, .string t362, .int .i64 0]) ?_ 2 _ rfl; (with_reducible repeat (first | apply bd1 | apply bd2 | apply bd3)); refine blk_put (cs := #[.string t351, .string (⟨#[]⟩ : ByteArray), .int .i64 0]) ?_ 1 _ rfl; (with_reducible repeat (first | apply bd1 | apply bd2 | apply bd3)); refine blk_put (cs := #[.string (⟨#[]⟩ : ByteArray), .string (⟨#[]⟩ : ByteArray), .int .i64 0]) ?_ 0 _ rfl; (with_reducible repeat (first | apply bd1 | apply bd2 | apply bd3)); exact BK338.out) Tryz.underlying35 rfl (by kernel_rfl)) rfl ?_
        exact ⟨by first | rfl | (simp [*, errW_none, errW_some] <;> rfl), by repeat (first | (with_reducible first | exact HI0.out | apply IsS76.alloc | apply IsS76.drewN | apply IsS76.drew | apply IsS76.set_0 | apply IsS76.set_1 | apply IsS76.far (hne := NB0_338.out) | apply IsS76.far (hne := NB0_343.out) | apply IsS76.far (hne := NB0_344.out)) | exact HI0.out), by repeat (first | (with_reducible first | exact HB.out | apply bw1 | apply bw2 | apply bw3 | refine below_set ?_ (IsS76.ge HI0.out) | refine below_set ?_ GE338.out | refine below_set ?_ GE343.out | refine below_set ?_ GE344.out) | exact HB.out), by repeat (first | (with_reducible first | exact HK.out | apply bk1 | apply bk2 | apply bk3 | apply bk4 | refine keep_far ?_ GW338.out _ | refine keep_far ?_ GW343.out _ | refine keep_far ?_ GW344.out _) | exact HK.out)⟩
end Go.Proofs.YtifachjefpcgcaaGreatDoor.P
