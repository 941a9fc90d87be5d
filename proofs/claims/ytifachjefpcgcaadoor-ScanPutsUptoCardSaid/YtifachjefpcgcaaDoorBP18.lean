import Derived.Test.YtifachjefpcgcaaDoorBPD
import Derived.Test.YtifachjefpcgcaaDoorBP16
import Derived.Test.YtifachjefpcgcaaDoorBP17
namespace Go.Proofs.YtifachjefpcgcaaDoor.P
open Go.RowKit Go.Proofs.YtifachjefpcgcaaDoorW.PrintWords Go.Proofs.YtifachjefpcgcaaDoorW.PrintLast Go.Proofs.YtifachjefpcgcaaDoorW.PrintMore
attribute [local go_sem] max2_int min2_int max_two min_two max_three min_three max_four min_four
set_option linter.unusedVariables false
set_option linter.unusedSimpArgs false
set_option maxHeartbeats 8000000 in
set_option maxRecDepth 100000 in
theorem treadleref13_Includes.calls (k : Nat) (a0 : ByteArray) (r1 : List (S35)) (r2 : Int) (r3 : Int) (r4 : Int) (w : World) (h : treadleref13_Includes.f k a0 = some (r1, r2, r3, r4)) :
  Calls Tryd.prog 8 #[.string a0] w fun e w' => ∃ v0_ : Value, e = .returned (.tuple #[v0_, .int .i64 r2, .int .i64 r3, .int .i64 r4]) ∧ Kd.R k35 35 w' w.heap.size (fun _ => True) v0_ r1 ∧ Below w.heap.size w w' := by
 have hu35 := Tryd.underlying35
 have HB := Aside0.mk (Below.refl w.heap.size w)
 have H : (if (a0.size : Int) > 65536 then (some (([] : List (S35)), 0, 3, 0)) else (treadleref13_Includes.l0 k a0 ([] : List (S35)) 0)) = some (r1, r2, r3, r4) := h
 clear h
 by_cases c2 : (a0.size : Int) > 65536
 ·rw [if_pos c2] at H
  have c2b0 : decide (65536 < (a0.size : Int)) = true := decide_eq_true c2
  have c2b1 : decide (65536 < a0.size) = true := decide_eq_true (by omega)
  clear c2
  simp only [Option.some.injEq, Prod.mk.injEq] at H
  obtain ⟨rfl, rfl, rfl, rfl⟩ := H
  go_enter Tryd.func8, Tryd.ntmps8
  go_wp2
  refine bodyPost_ret (results_list (rs := [.tmp 2, .tmp 3, .tmp 4, .tmp 5]) rfl (by simp) (.tmp (.tmp (.tmp (.tmp .nil))))) rfl ?_
  exact ⟨_, by first | rfl | (simp [*, errW_none, errW_some] <;> rfl), by first | exact Kd.R_nil _ _ _ _ _ | exact Kd.N_nil _ _ _ _ _ | exact Kd.V_nil _ _ _ _ _ | exact Kd.Q_nil _ _ _ _ _ | exact Kd.S_nil _ _ _ _ _, by repeat (first | (with_reducible first | exact HB.out | apply bw1 | apply bw2 | apply bw3) | exact HB.out)⟩
 ·rw [if_neg c2] at H
  have c2b0 : decide (65536 < (a0.size : Int)) = false := decide_eq_false c2
  have c2b1 : decide (65536 < a0.size) = false := decide_eq_false (by omega)
  clear c2
  have H' := Aside0.mk H
  clear H
  go_enter Tryd.func8, Tryd.ntmps8
  go_wp2
  go_loopg [6, 7] k (fun kq v6 v7 w' => ∃ (x6_1 : List (S35)) (x7_1 : Int), v7 = .int .i64 x7_1 ∧ Aside0 (treadleref13_Includes.l0 kq a0 x6_1 x7_1 = some (r1, r2, r3, r4)) ∧ Aside0 (kq ≤ k) ∧ Aside0 (Kd.R k35 35 w' w.heap.size (fun _ => True) v6 x6_1) ∧ Aside0 (Below w.heap.size w w'))
  case atStart => exact ⟨(([] : List (S35))), (0), (by first | rfl | (simp; done) | (simp [*]; done)), H', ⟨Nat.le_refl _⟩, ⟨by first | exact Kd.R_nil _ _ _ _ _ | exact Kd.N_nil _ _ _ _ _ | exact Kd.V_nil _ _ _ _ _ | exact Kd.Q_nil _ _ _ _ _ | exact Kd.S_nil _ _ _ _ _⟩, ⟨by repeat (first | (with_reducible first | exact HB.out | apply bw1 | apply bw2 | apply bw3) | exact HB.out)⟩⟩
  case round =>
   clear H'
   try clear c2
   try clear c2b0
   try clear c2b1
   try clear p2
   obtain ⟨x6_1, x7_1, rfl, HA, HK1, HO_6, HB⟩ := hrel
   cases gk with
   | zero => exact absurd HA.out (by simp [treadleref13_Includes.l0])
   | succ k1 =>
    have H := HA.out
    clear HA
    simp only [treadleref13_Includes.l0] at H
    replace H := Option.bind_eq_some_iff.mp H
    obtain ⟨⟨t252, t253, t254, t255⟩, A30, H⟩ := H
    replace H : (if t254 = 0 then (treadleref13_Includes.j1 k1 a0 x6_1 x7_1 t253 t255 (t252.toList != ([105, 110, 99, 108, 117, 100, 101] : List UInt8))) else (treadleref13_Includes.j1 k1 a0 x6_1 x7_1 t253 t255 true)) = some (r1, r2, r3, r4) := H
    have A3 := Aside0.mk A30
    clear A30
    have HC4 := Aside0.mk H
    clear H
    go_upto_region 6 with (first | ((with_reducible refine gate_callee (f := 16) rfl ?_); refine goesL_ (some 24) rfl rfl Tryd.func16 (by kernel_rfl) rfl #[.string a0, .int .i64 x7_1] rfl (am.trans (by rfl)) ?_; (with_reducible refine (treadleref13_one.calls k1 a0 x7_1 t252 t253 t254 t255 _ A3.out).mono ?_); rintro e w5 ⟨rfl, hb⟩; refine ⟨_, rfl, ?_⟩; have n0_ := Aside0.mk (Kd.R_below (by (with_reducible repeat (first | apply Kd.R_alloc | apply Kd.R_drewN | apply Kd.R_drew)); exact HO_6.out) hb); have n1_ := Aside0.mk (below_step (by repeat (first | (with_reducible first | exact HB.out | apply bw1 | apply bw2 | apply bw3) | exact HB.out)) hb); clear HO_6 HB; have HO_6 := n0_; have HB := n1_; clear n0_ n1_; (try clear hb); (try clear hb2); (try clear hk); (try clear hi)))
    (try simp only [Act.put, List.setIfInBounds_toArray, List.set_cons_zero, List.set_cons_succ])
    go_cut [34] (fun v34 wc => ∃ (kq : Nat) (x34_3 : Bool), v34 = .bool x34_3 ∧ Aside0 (treadleref13_Includes.j1 kq a0 x6_1 x7_1 t253 t255 x34_3 = some (r1, r2, r3, r4)) ∧ Aside0 (kq ≤ k1) ∧ Aside0 (Kd.R k35 35 wc w.heap.size (fun _ => True) u6 x6_1) ∧ Aside0 (Below w.heap.size w wc))
    case first =>
     have H := HC4.out
     clear HC4
     by_cases c6 : t254 = 0
     ·rw [if_pos c6] at H
      have c6b0 : (t254 == 0) = true := beq_iff_eq.mpr c6
      have c6b1 : (t254 != 0) = false := bne_eq_false_iff_eq.mpr c6
      clear c6
      (first | rw [c6b0] | (simp only [i64_w, i32_w]; rw [c6b0]) | skip)
      have H' := Aside0.mk H
      clear H
      go_wp2
      go_meet
      case rel => exact ⟨_, ((t252.toList != ([105, 110, 99, 108, 117, 100, 101] : List UInt8))), (by first | rfl | (simp; done) | (simp [*]; done)), H', ⟨by have := HK1.out; first | omega | exact Nat.le_refl _⟩, ⟨by (with_reducible repeat (first | apply Kd.R_alloc | apply Kd.R_drewN | apply Kd.R_drew)); exact HO_6.out⟩, ⟨by repeat (first | (with_reducible first | exact HB.out | apply bw1 | apply bw2 | apply bw3) | exact HB.out)⟩⟩
     ·rw [if_neg c6] at H
      have c6b0 : (t254 == 0) = false := beq_eq_false_iff_ne.mpr c6
      have c6b1 : (t254 != 0) = true := bne_iff_ne.mpr c6
      (first | rw [c6b0] | (simp only [i64_w, i32_w]; rw [c6b0]) | skip)
      have H' := Aside0.mk H
      clear H
      go_wp2
      go_meet
      case rel => exact ⟨_, (true), (by first | rfl | (simp; done) | (simp [*]; done)), H', ⟨by have := HK1.out; first | omega | exact Nat.le_refl _⟩, ⟨by (with_reducible repeat (first | apply Kd.R_alloc | apply Kd.R_drewN | apply Kd.R_drew)); exact HO_6.out⟩, ⟨by repeat (first | (with_reducible first | exact HB.out | apply bw1 | apply bw2 | apply bw3) | exact HB.out)⟩⟩
    case rest =>
     clear HC4
     try clear c1
     try clear c2
     try clear c2b0
     try clear c2b1
     try clear p2
     try clear c6
     try clear c6b0
     try clear c6b1
     try clear p2
     obtain ⟨kq, x34_3, rfl, HA, HJ3, HO_6, HB⟩ := hcut
     cases kq with
     | zero => exact absurd HA.out (by simp [treadleref13_Includes.j1])
     | succ kj3 =>
      have H := HA.out
      clear HA
      simp only [treadleref13_Includes.j1] at H
      by_cases c7 : x34_3 = true
      ·subst c7
       have H1 : (some (x6_1, x7_1, 0, 0)) = some (r1, r2, r3, r4) := by rw [if_pos rfl] at H; exact H
       clear H
       have H := H1
       clear H1
       simp only [Option.some.injEq, Prod.mk.injEq] at H
       obtain ⟨rfl, rfl, rfl, rfl⟩ := H
       go_wp2
       refine bodyPost_ret (results_list (rs := [.tmp 2, .tmp 3, .tmp 4, .tmp 5]) rfl (by simp) (.tmp (.tmp (.tmp (.tmp .nil))))) rfl ?_
       exact ⟨_, by first | rfl | (simp [*, errW_none, errW_some] <;> rfl), by (with_reducible repeat (first | apply Kd.R_alloc | apply Kd.R_drewN | apply Kd.R_drew)); exact HO_6.out, by repeat (first | (with_reducible first | exact HB.out | apply bw1 | apply bw2 | apply bw3) | exact HB.out)⟩
      ·replace c7 := Bool.eq_false_iff.mpr c7
       subst c7
       have H1 : (treadleref13_Includes.l1 kj3 a0 x6_1 t253 1 (⟨#[]⟩ : ByteArray) (⟨#[]⟩ : ByteArray) t255) = some (r1, r2, r3, r4) := by rw [if_neg (show ¬ (false = true) by decide)] at H; exact H
       clear H
       have H := H1
       clear H1
       have H' := Aside0.mk H
       clear H
       go_wp2_with (first | ((with_reducible refine gate_dst (N := 12) rfl ?_); refine box_event ?hg (N := 12) ?hd (cs := #[.string (⟨#[]⟩ : ByteArray), .string (⟨#[]⟩ : ByteArray), .int .i64 0]) (t := 35) ?hr ?_; (case hd => rfl); (case hg => rfl); (case hr => first | (go_simp; done) | (go_simp; rfl)); intro gb256 hg w8 hbox hb; have n0_ := Aside0.mk (Kd.R_below (Kd.R_elderB (by (with_reducible repeat (first | apply Kd.R_alloc | apply Kd.R_drewN | apply Kd.R_drew)); exact HO_6.out) gb256 (Nat.le_of_eq hg.symm)) hb); have n1_ := Aside0.mk (below_step (by repeat (first | (with_reducible first | exact HB.out | apply bw1 | apply bw2 | apply bw3) | exact HB.out)) hb); have n2_ := Aside0.mk (hbox); have n3_ := Aside0.mk ((by rw [hg]; exact (below_size (by repeat (first | (with_reducible first | exact HB.out | apply bw1 | apply bw2 | apply bw3) | exact HB.out))) : w.heap.size ≤ gb256)); have n4_ := Aside0.mk (n3_.out); clear HO_6 HB; have HO_6 := n0_; have HB := n1_; have BK256 := n2_; have GW256 := n3_; have GE256 := n4_; clear n0_ n1_ n2_ n3_ n4_; clear hb hbox hg; have hcz9_0 : w8.cell? ⟨gb256, 0, none⟩ = some (.string (⟨#[]⟩ : ByteArray)) := (blk_cell BK256.out 0).trans rfl; have hcz9_1 : w8.cell? ⟨gb256, 1, none⟩ = some (.string (⟨#[]⟩ : ByteArray)) := (blk_cell BK256.out 1).trans rfl; have hcz9_2 : w8.cell? ⟨gb256, 2, none⟩ = some (.int .i64 0) := (blk_cell BK256.out 2).trans rfl; have hfz9_0 := blk_frozen BK256.out 0; have hfz9_1 := blk_frozen BK256.out 1; have hfz9_2 := blk_frozen BK256.out 2))
       go_loopg [9, 13] kj3 (fun kq v9 v13 w' => ∃ (x9_3 : Int) (x13_3 : Int) (x257000_3 : ByteArray) (x257001_3 : ByteArray), v9 = .int .i64 x9_3 ∧ v13 = .int .i64 x13_3 ∧ Aside0 (treadleref13_Includes.l1 kq a0 x6_1 x9_3 x13_3 x257000_3 x257001_3 t255 = some (r1, r2, r3, r4)) ∧ Aside0 (kq ≤ kj3) ∧ Aside0 (Kd.R k35 35 w' w.heap.size (fun k_ => k_ ≠ gb256) u6 x6_1) ∧ Aside0 (w'.heap[gb256]? = some (.cells #[.string x257000_3, .string x257001_3, .int .i64 t255] 35 (0, 0))) ∧ Aside0 (Below w.heap.size w w'))
       case atStart => exact ⟨(t253), (1), ((⟨#[]⟩ : ByteArray)), ((⟨#[]⟩ : ByteArray)), (by first | rfl | (simp; done) | (simp [*]; done)), (by first | rfl | (simp; done) | (simp [*]; done)), H', ⟨Nat.le_refl _⟩, ⟨by (with_reducible repeat (first | apply Kd.R_alloc | apply Kd.R_drewN | apply Kd.R_drew)); exact Kd.R_mono (Kd.R_far (p := ⟨gb256, 2, none⟩) (Kd.R_far (p := ⟨gb256, 1, none⟩) (Kd.R_far (p := ⟨gb256, 0, none⟩) (Kd.R_mono HO_6.out (fun k_ hk => (⟨hk, hk.2⟩ : _ ∧ k_ ≠ gb256))) (fun _ hk => hk.2) (.string (⟨#[]⟩ : ByteArray))) (fun _ hk => hk.2) (.string (⟨#[]⟩ : ByteArray))) (fun _ hk => hk.2) (.int .i64 t255)) (fun _ hk => hk.1.2)⟩, ⟨by (with_reducible repeat (first | apply bd1 | apply bd2 | apply bd3)); refine blk_put (cs := #[.string (⟨#[]⟩ : ByteArray), .string (⟨#[]⟩ : ByteArray), .int .i64 0]) ?_ 2 _ rfl; (with_reducible repeat (first | apply bd1 | apply bd2 | apply bd3)); refine blk_put (cs := #[.string (⟨#[]⟩ : ByteArray), .string (⟨#[]⟩ : ByteArray), .int .i64 0]) ?_ 1 _ rfl; (with_reducible repeat (first | apply bd1 | apply bd2 | apply bd3)); refine blk_put (cs := #[.string (⟨#[]⟩ : ByteArray), .string (⟨#[]⟩ : ByteArray), .int .i64 0]) ?_ 0 _ rfl; (with_reducible repeat (first | apply bd1 | apply bd2 | apply bd3)); exact BK256.out⟩, ⟨by repeat (first | (with_reducible first | exact HB.out | apply bw1 | apply bw2 | apply bw3 | refine below_set ?_ GE256.out) | exact HB.out)⟩⟩
       case round =>
        clear H'
        try clear c1
        try clear c2
        try clear c2b0
        try clear c2b1
        try clear p2
        try clear c6
        try clear c6b0
        try clear c6b1
        try clear c7
        try clear c8
        try clear hcz9_0
        try clear hcz9_1
        try clear hcz9_2
        try clear hfz9_0
        try clear hfz9_1
        try clear hfz9_2
        try clear p2
        obtain ⟨x9_3, x13_3, x257000_3, x257001_3, rfl, rfl, HA, HK3, HO_6, BK256, HB⟩ := hrel
        cases gk with
        | zero => exact absurd HA.out (by simp [treadleref13_Includes.l1])
        | succ k3 =>
         have H := HA.out
         clear HA
         simp only [treadleref13_Includes.l1] at H
         by_cases c10 : x13_3 ≤ 4
         ·rw [if_pos c10] at H
          have c10b0 : decide (x13_3 ≤ 4) = true := decide_eq_true c10
          clear c10
          replace H := Option.bind_eq_some_iff.mp H
          obtain ⟨⟨t260, t261, t262, t263⟩, A110, H⟩ := H
          replace H : (if t262 = 0 then ((treadleref13_fits.f k3 x13_3 t260).bind fun t264 => (treadleref13_Includes.j3 k3 a0 x6_1 x13_3 t260 t261 t262 t263 (!t264) x257000_3 x257001_3 t255)) else (treadleref13_Includes.j3 k3 a0 x6_1 x13_3 t260 t261 t262 t263 false x257000_3 x257001_3 t255)) = some (r1, r2, r3, r4) := H
          have A11 := Aside0.mk A110
          clear A110
          have HC12 := Aside0.mk H
          clear H
          go_upto_region 13 with (first | ((with_reducible refine gate_callee (f := 16) rfl ?_); refine goesL_ (some 46) rfl rfl Tryd.func16 (by kernel_rfl) rfl #[.string a0, .int .i64 x9_3] rfl (am.trans (by rfl)) ?_; (with_reducible refine (treadleref13_one.calls k3 a0 x9_3 t260 t261 t262 t263 _ A11.out).mono ?_); rintro e w13 ⟨rfl, hb⟩; refine ⟨_, rfl, ?_⟩; have n0_ := Aside0.mk (Kd.R_below (by (with_reducible repeat (first | apply Kd.R_alloc | apply Kd.R_drewN | apply Kd.R_drew)); exact HO_6.out) hb); have n1_ := Aside0.mk (blk_below (g := gb256) (o := .cells #[.string x257000_3, .string x257001_3, .int .i64 t255] 35 (0, 0)) (by (with_reducible repeat (first | apply bd1 | apply bd2 | apply bd3)); exact BK256.out) hb); have n2_ := Aside0.mk (below_step (by repeat (first | (with_reducible first | exact HB.out | apply bw1 | apply bw2 | apply bw3 | refine below_set ?_ GE256.out) | exact HB.out)) hb); clear HO_6 BK256 HB; have HO_6 := n0_; have BK256 := n1_; have HB := n2_; clear n0_ n1_ n2_; (try clear hb); (try clear hb2); (try clear hk); (try clear hi)))
          (try simp only [Act.put, List.setIfInBounds_toArray, List.set_cons_zero, List.set_cons_succ])
          go_cut [58] (fun v58 wc => ∃ (kq : Nat) (x58_11 : Bool), v58 = .bool x58_11 ∧ Aside0 (treadleref13_Includes.j3 kq a0 x6_1 x13_3 t260 t261 t262 t263 x58_11 x257000_3 x257001_3 t255 = some (r1, r2, r3, r4)) ∧ Aside0 (kq ≤ k3) ∧ Aside0 (Kd.R k35 35 wc w.heap.size (fun k_ => k_ ≠ gb256) u6 x6_1) ∧ Aside0 (wc.heap[gb256]? = some (.cells #[.string x257000_3, .string x257001_3, .int .i64 t255] 35 (0, 0))) ∧ Aside0 (Below w.heap.size w wc))
          case first =>
           have H := HC12.out
           clear HC12
           by_cases c14 : t262 = 0
           ·rw [if_pos c14] at H
            have c14b0 : (t262 == 0) = true := beq_iff_eq.mpr c14
            have c14b1 : (t262 != 0) = false := bne_eq_false_iff_eq.mpr c14
            clear c14
            (first | rw [c14b0] | (simp only [i64_w, i32_w]; rw [c14b0]) | skip)
            replace H := Option.bind_eq_some_iff.mp H
            obtain ⟨t264, A150, H⟩ := H
            replace H : (treadleref13_Includes.j3 k3 a0 x6_1 x13_3 t260 t261 t262 t263 (!t264) x257000_3 x257001_3 t255) = some (r1, r2, r3, r4) := H
            have A15 := Aside0.mk A150
            clear A150
            have H' := Aside0.mk H
            clear H
            go_wp2_with (first | (go_at_call 17; (with_reducible refine (treadleref13_fits.calls k3 x13_3 t260 t264 _ A15.out).mono ?_); rintro e w16 ⟨rfl, hb⟩; have n0_ := Aside0.mk (Kd.R_below (by (with_reducible repeat (first | apply Kd.R_alloc | apply Kd.R_drewN | apply Kd.R_drew)); exact HO_6.out) hb); have n1_ := Aside0.mk (blk_below (g := gb256) (o := .cells #[.string x257000_3, .string x257001_3, .int .i64 t255] 35 (0, 0)) (by (with_reducible repeat (first | apply bd1 | apply bd2 | apply bd3)); exact BK256.out) hb); have n2_ := Aside0.mk (below_step (by repeat (first | (with_reducible first | exact HB.out | apply bw1 | apply bw2 | apply bw3 | refine below_set ?_ GE256.out) | exact HB.out)) hb); clear HO_6 BK256 HB; have HO_6 := n0_; have BK256 := n1_; have HB := n2_; clear n0_ n1_ n2_; (try clear hb); (try clear hb2); (try clear hk); (try clear hi)))
            go_meet
            case rel => exact ⟨_, (!t264), (by first | rfl | (simp; done) | (simp [*]; done)), H', ⟨by have := HK1.out; have := HJ3.out; have := HK3.out; first | omega | exact Nat.le_refl _⟩, ⟨by (with_reducible repeat (first | apply Kd.R_alloc | apply Kd.R_drewN | apply Kd.R_drew)); exact HO_6.out⟩, ⟨by (with_reducible repeat (first | apply bd1 | apply bd2 | apply bd3)); exact BK256.out⟩, ⟨by repeat (first | (with_reducible first | exact HB.out | apply bw1 | apply bw2 | apply bw3 | refine below_set ?_ GE256.out) | exact HB.out)⟩⟩
           ·rw [if_neg c14] at H
            have c14b0 : (t262 == 0) = false := beq_eq_false_iff_ne.mpr c14
            have c14b1 : (t262 != 0) = true := bne_iff_ne.mpr c14
            (first | rw [c14b0] | (simp only [i64_w, i32_w]; rw [c14b0]) | skip)
            have H' := Aside0.mk H
            clear H
            go_wp2
            go_meet
            case rel => exact ⟨_, (false), (by first | rfl | (simp; done) | (simp [*]; done)), H', ⟨by have := HK1.out; have := HJ3.out; have := HK3.out; first | omega | exact Nat.le_refl _⟩, ⟨by (with_reducible repeat (first | apply Kd.R_alloc | apply Kd.R_drewN | apply Kd.R_drew)); exact HO_6.out⟩, ⟨by (with_reducible repeat (first | apply bd1 | apply bd2 | apply bd3)); exact BK256.out⟩, ⟨by repeat (first | (with_reducible first | exact HB.out | apply bw1 | apply bw2 | apply bw3 | refine below_set ?_ GE256.out) | exact HB.out)⟩⟩
          case rest =>
           clear HC12
           try clear c1
           try clear c2
           try clear c2b0
           try clear c2b1
           try clear p2
           try clear c6
           try clear c6b0
           try clear c6b1
           try clear c7
           try clear c8
           try clear c10
           try clear c10b0
           try clear c14
           try clear c14b0
           try clear c14b1
           try clear c16
           try clear hcz9_0
           try clear hcz9_1
           try clear hcz9_2
           try clear hfz9_0
           try clear hfz9_1
           try clear hfz9_2
           try clear p2
           obtain ⟨kq, x58_11, rfl, HA, HJ11, HO_6, BK256, HB⟩ := hcut
           cases kq with
           | zero => exact absurd HA.out (by simp [treadleref13_Includes.j3])
           | succ kj11 =>
            have H := HA.out
            clear HA
            simp only [treadleref13_Includes.j3] at H
            have HC17 := Aside0.mk H
            clear H
            go_upto_if 58 with (fail)
            go_cut [16] (fun v16 wc => ∃ (kq : Nat) (x16_16 : Int), v16 = .int .i64 x16_16 ∧ Aside0 (treadleref13_Includes.j4 kq a0 x6_1 x13_3 t260 t261 x16_16 t263 x257000_3 x257001_3 t255 = some (r1, r2, r3, r4)) ∧ Aside0 (kq ≤ kj11) ∧ Aside0 (Kd.R k35 35 wc w.heap.size (fun k_ => k_ ≠ gb256) u6 x6_1) ∧ Aside0 (wc.heap[gb256]? = some (.cells #[.string x257000_3, .string x257001_3, .int .i64 t255] 35 (0, 0))) ∧ Aside0 (Below w.heap.size w wc))
            case first =>
             have H := HC17.out
             clear HC17
             by_cases c18 : x58_11 = true
             ·subst c18
              have H1 : (treadleref13_Includes.j4 kj11 a0 x6_1 x13_3 t260 t261 130 t263 x257000_3 x257001_3 t255) = some (r1, r2, r3, r4) := by rw [if_pos rfl] at H; exact H
              clear H
              have H := H1
              clear H1
              have H' := Aside0.mk H
              clear H
              go_wp2
              go_meet
              case rel => exact ⟨_, (130), (by first | rfl | (simp; done) | (simp [*]; done)), H', ⟨by have := HK1.out; have := HJ3.out; have := HK3.out; have := HJ11.out; first | omega | exact Nat.le_refl _⟩, ⟨by (with_reducible repeat (first | apply Kd.R_alloc | apply Kd.R_drewN | apply Kd.R_drew)); exact HO_6.out⟩, ⟨by (with_reducible repeat (first | apply bd1 | apply bd2 | apply bd3)); exact BK256.out⟩, ⟨by repeat (first | (with_reducible first | exact HB.out | apply bw1 | apply bw2 | apply bw3 | refine below_set ?_ GE256.out) | exact HB.out)⟩⟩
             ·replace c18 := Bool.eq_false_iff.mpr c18
              subst c18
              have H1 : (treadleref13_Includes.j4 kj11 a0 x6_1 x13_3 t260 t261 t262 t263 x257000_3 x257001_3 t255) = some (r1, r2, r3, r4) := by rw [if_neg (show ¬ (false = true) by decide)] at H; exact H
              clear H
              have H := H1
              clear H1
              have H' := Aside0.mk H
              clear H
              go_wp2
              go_meet
              case rel => exact ⟨_, (t262), (by first | rfl | (simp; done) | (simp [*]; done)), H', ⟨by have := HK1.out; have := HJ3.out; have := HK3.out; have := HJ11.out; first | omega | exact Nat.le_refl _⟩, ⟨by (with_reducible repeat (first | apply Kd.R_alloc | apply Kd.R_drewN | apply Kd.R_drew)); exact HO_6.out⟩, ⟨by (with_reducible repeat (first | apply bd1 | apply bd2 | apply bd3)); exact BK256.out⟩, ⟨by repeat (first | (with_reducible first | exact HB.out | apply bw1 | apply bw2 | apply bw3 | refine below_set ?_ GE256.out) | exact HB.out)⟩⟩
            case rest =>
             clear HC17
             try clear c1
             try clear c2
             try clear c2b0
             try clear c2b1
             try clear p2
             try clear c6
             try clear c6b0
             try clear c6b1
             try clear c7
             try clear c8
             try clear c10
             try clear c10b0
             try clear c14
             try clear c14b0
             try clear c14b1
             try clear c16
             try clear c18
             try clear hcz9_0
             try clear hcz9_1
             try clear hcz9_2
             try clear hfz9_0
             try clear hfz9_1
             try clear hfz9_2
             try clear p2
             obtain ⟨kq, x16_16, rfl, HA, HJ16, HO_6, BK256, HB⟩ := hcut
             cases kq with
             | zero => exact absurd HA.out (by simp [treadleref13_Includes.j4])
             | succ kj16 =>
              have H := HA.out
              clear HA
              simp only [treadleref13_Includes.j4] at H
              by_cases c19 : x16_16 = 0
              ·rw [if_pos c19] at H
               have c19b0 : (x16_16 == 0) = true := beq_iff_eq.mpr c19
               have c19b1 : (x16_16 != 0) = false := bne_eq_false_iff_eq.mpr c19
               clear c19
               by_cases c20 : x13_3 = 1
               ·rw [if_pos c20] at H
                have c20b0 : (x13_3 == 1) = true := beq_iff_eq.mpr c20
                have c20b1 : (x13_3 != 1) = false := bne_eq_false_iff_eq.mpr c20
                clear c20
                replace H := Option.bind_eq_some_iff.mp H
                obtain ⟨⟨t265, t266⟩, A210, H⟩ := H
                replace H : (if x13_3 = 3 then (treadleref13_Includes.l1 kj16 a0 x6_1 t261 (wrap64 (x13_3 + 1)) t265 t260 t255) else (treadleref13_Includes.l1 kj16 a0 x6_1 t261 (wrap64 (x13_3 + 1)) t265 x257001_3 t255)) = some (r1, r2, r3, r4) := H
                have A21 := Aside0.mk A210
                clear A210
                by_cases c22 : x13_3 = 3
                ·rw [if_pos c22] at H
                 have c22b0 : (x13_3 == 3) = true := beq_iff_eq.mpr c22
                 have c22b1 : (x13_3 != 3) = false := bne_eq_false_iff_eq.mpr c22
                 clear c22
                 have H' := Aside0.mk H
                 clear H
                 go_wp2_with (first | ((with_reducible refine gate_callee (f := 18) rfl ?_); refine goesL_ (some 67) rfl rfl Tryd.func18 (by kernel_rfl) rfl #[.string t260] rfl (am.trans (by rfl)) ?_; (with_reducible refine (treadleref12_Text.calls kj16 t260 t265 t266 _ A21.out).mono ?_); rintro e w23 ⟨rfl, hb⟩; refine ⟨_, rfl, ?_⟩; have n0_ := Aside0.mk (Kd.R_below (by (with_reducible repeat (first | apply Kd.R_alloc | apply Kd.R_drewN | apply Kd.R_drew)); exact HO_6.out) hb); have n1_ := Aside0.mk (blk_below (g := gb256) (o := .cells #[.string x257000_3, .string x257001_3, .int .i64 t255] 35 (0, 0)) (by (with_reducible repeat (first | apply bd1 | apply bd2 | apply bd3)); exact BK256.out) hb); have n2_ := Aside0.mk (below_step (by repeat (first | (with_reducible first | exact HB.out | apply bw1 | apply bw2 | apply bw3 | refine below_set ?_ GE256.out) | exact HB.out)) hb); clear HO_6 BK256 HB; have HO_6 := n0_; have BK256 := n1_; have HB := n2_; clear n0_ n1_ n2_; (try clear hb); (try clear hb2); (try clear hk); (try clear hi); have hcz24_0 : w23.cell? ⟨gb256, 0, none⟩ = some (.string x257000_3) := (blk_cell BK256.out 0).trans rfl; have hcz24_1 : w23.cell? ⟨gb256, 1, none⟩ = some (.string x257001_3) := (blk_cell BK256.out 1).trans rfl; have hcz24_2 : w23.cell? ⟨gb256, 2, none⟩ = some (.int .i64 t255) := (blk_cell BK256.out 2).trans rfl; have hfz24_0 := blk_frozen BK256.out 0; have hfz24_1 := blk_frozen BK256.out 1; have hfz24_2 := blk_frozen BK256.out 2))
                 go_roundg kj16
                 case measure => have := HK1.out; have := HJ3.out; have := HK3.out; have := HJ11.out; have := HJ16.out; omega
                 case rel => exact ⟨(t261), (wrap64 (x13_3 + 1)), (t265), (t260), (by first | rfl | (simp; done) | (simp [*]; done)), (by first | rfl | (simp; done) | (simp [*]; done)), H', ⟨by have := HK1.out; have := HJ3.out; have := HK3.out; have := HJ11.out; have := HJ16.out; omega⟩, ⟨by (with_reducible repeat (first | apply Kd.R_alloc | apply Kd.R_drewN | apply Kd.R_drew)); exact Kd.R_mono (Kd.R_far (p := ⟨gb256, 1, none⟩) (Kd.R_far (p := ⟨gb256, 0, none⟩) (Kd.R_mono HO_6.out (fun k_ hk => (⟨hk, hk⟩ : _ ∧ k_ ≠ gb256))) (fun _ hk => hk.2) (.string t265)) (fun _ hk => hk.2) (.string t260)) (fun _ hk => hk.1)⟩, ⟨by (with_reducible repeat (first | apply bd1 | apply bd2 | apply bd3)); refine blk_put (cs := #[.string t265, .string x257001_3, .int .i64 t255]) ?_ 1 _ rfl; (with_reducible repeat (first | apply bd1 | apply bd2 | apply bd3)); refine blk_put (cs := #[.string x257000_3, .string x257001_3, .int .i64 t255]) ?_ 0 _ rfl; (with_reducible repeat (first | apply bd1 | apply bd2 | apply bd3)); exact BK256.out⟩, ⟨by repeat (first | (with_reducible first | exact HB.out | apply bw1 | apply bw2 | apply bw3 | refine below_set ?_ GE256.out) | exact HB.out)⟩⟩
                ·rw [if_neg c22] at H
                 have c22b0 : (x13_3 == 3) = false := beq_eq_false_iff_ne.mpr c22
                 have c22b1 : (x13_3 != 3) = true := bne_iff_ne.mpr c22
                 have H' := Aside0.mk H
                 clear H
                 go_wp2_with (first | ((with_reducible refine gate_callee (f := 18) rfl ?_); refine goesL_ (some 67) rfl rfl Tryd.func18 (by kernel_rfl) rfl #[.string t260] rfl (am.trans (by rfl)) ?_; (with_reducible refine (treadleref12_Text.calls kj16 t260 t265 t266 _ A21.out).mono ?_); rintro e w25 ⟨rfl, hb⟩; refine ⟨_, rfl, ?_⟩; have n0_ := Aside0.mk (Kd.R_below (by (with_reducible repeat (first | apply Kd.R_alloc | apply Kd.R_drewN | apply Kd.R_drew)); exact HO_6.out) hb); have n1_ := Aside0.mk (blk_below (g := gb256) (o := .cells #[.string x257000_3, .string x257001_3, .int .i64 t255] 35 (0, 0)) (by (with_reducible repeat (first | apply bd1 | apply bd2 | apply bd3)); exact BK256.out) hb); have n2_ := Aside0.mk (below_step (by repeat (first | (with_reducible first | exact HB.out | apply bw1 | apply bw2 | apply bw3 | refine below_set ?_ GE256.out) | exact HB.out)) hb); clear HO_6 BK256 HB; have HO_6 := n0_; have BK256 := n1_; have HB := n2_; clear n0_ n1_ n2_; (try clear hb); (try clear hb2); (try clear hk); (try clear hi); have hcz26_0 : w25.cell? ⟨gb256, 0, none⟩ = some (.string x257000_3) := (blk_cell BK256.out 0).trans rfl; have hcz26_1 : w25.cell? ⟨gb256, 1, none⟩ = some (.string x257001_3) := (blk_cell BK256.out 1).trans rfl; have hcz26_2 : w25.cell? ⟨gb256, 2, none⟩ = some (.int .i64 t255) := (blk_cell BK256.out 2).trans rfl; have hfz26_0 := blk_frozen BK256.out 0; have hfz26_1 := blk_frozen BK256.out 1; have hfz26_2 := blk_frozen BK256.out 2))
                 go_roundg kj16
                 case measure => have := HK1.out; have := HJ3.out; have := HK3.out; have := HJ11.out; have := HJ16.out; omega
                 case rel => exact ⟨(t261), (wrap64 (x13_3 + 1)), (t265), (x257001_3), (by first | rfl | (simp; done) | (simp [*]; done)), (by first | rfl | (simp; done) | (simp [*]; done)), H', ⟨by have := HK1.out; have := HJ3.out; have := HK3.out; have := HJ11.out; have := HJ16.out; omega⟩, ⟨by (with_reducible repeat (first | apply Kd.R_alloc | apply Kd.R_drewN | apply Kd.R_drew)); exact Kd.R_mono (Kd.R_far (p := ⟨gb256, 0, none⟩) (Kd.R_mono HO_6.out (fun k_ hk => (⟨hk, hk⟩ : _ ∧ k_ ≠ gb256))) (fun _ hk => hk.2) (.string t265)) (fun _ hk => hk.1)⟩, ⟨by (with_reducible repeat (first | apply bd1 | apply bd2 | apply bd3)); refine blk_put (cs := #[.string x257000_3, .string x257001_3, .int .i64 t255]) ?_ 0 _ rfl; (with_reducible repeat (first | apply bd1 | apply bd2 | apply bd3)); exact BK256.out⟩, ⟨by repeat (first | (with_reducible first | exact HB.out | apply bw1 | apply bw2 | apply bw3 | refine below_set ?_ GE256.out) | exact HB.out)⟩⟩
               ·rw [if_neg c20] at H
                have c20b0 : (x13_3 == 1) = false := beq_eq_false_iff_ne.mpr c20
                have c20b1 : (x13_3 != 1) = true := bne_iff_ne.mpr c20
                by_cases c27 : x13_3 = 3
                ·rw [if_pos c27] at H
                 have c27b0 : (x13_3 == 3) = true := beq_iff_eq.mpr c27
                 have c27b1 : (x13_3 != 3) = false := bne_eq_false_iff_eq.mpr c27
                 clear c27
                 have H' := Aside0.mk H
                 clear H
                 have hcz28_0 : wc.cell? ⟨gb256, 0, none⟩ = some (.string x257000_3) := (blk_cell BK256.out 0).trans rfl
                 have hcz28_1 : wc.cell? ⟨gb256, 1, none⟩ = some (.string x257001_3) := (blk_cell BK256.out 1).trans rfl
                 have hcz28_2 : wc.cell? ⟨gb256, 2, none⟩ = some (.int .i64 t255) := (blk_cell BK256.out 2).trans rfl
                 have hfz28_0 := blk_frozen BK256.out 0
                 have hfz28_1 := blk_frozen BK256.out 1
                 have hfz28_2 := blk_frozen BK256.out 2
                 go_wp2
                 go_roundg kj16
                 case measure => have := HK1.out; have := HJ3.out; have := HK3.out; have := HJ11.out; have := HJ16.out; omega
                 case rel => exact ⟨(t261), (wrap64 (x13_3 + 1)), (x257000_3), (t260), (by first | rfl | (simp; done) | (simp [*]; done)), (by first | rfl | (simp; done) | (simp [*]; done)), H', ⟨by have := HK1.out; have := HJ3.out; have := HK3.out; have := HJ11.out; have := HJ16.out; omega⟩, ⟨by (with_reducible repeat (first | apply Kd.R_alloc | apply Kd.R_drewN | apply Kd.R_drew)); exact Kd.R_mono (Kd.R_far (p := ⟨gb256, 1, none⟩) (Kd.R_mono HO_6.out (fun k_ hk => (⟨hk, hk⟩ : _ ∧ k_ ≠ gb256))) (fun _ hk => hk.2) (.string t260)) (fun _ hk => hk.1)⟩, ⟨by (with_reducible repeat (first | apply bd1 | apply bd2 | apply bd3)); refine blk_put (cs := #[.string x257000_3, .string x257001_3, .int .i64 t255]) ?_ 1 _ rfl; (with_reducible repeat (first | apply bd1 | apply bd2 | apply bd3)); exact BK256.out⟩, ⟨by repeat (first | (with_reducible first | exact HB.out | apply bw1 | apply bw2 | apply bw3 | refine below_set ?_ GE256.out) | exact HB.out)⟩⟩
                ·rw [if_neg c27] at H
                 have c27b0 : (x13_3 == 3) = false := beq_eq_false_iff_ne.mpr c27
                 have c27b1 : (x13_3 != 3) = true := bne_iff_ne.mpr c27
                 have H' := Aside0.mk H
                 clear H
                 go_wp2
                 go_roundg kj16
                 case measure => have := HK1.out; have := HJ3.out; have := HK3.out; have := HJ11.out; have := HJ16.out; omega
                 case rel => exact ⟨(t261), (wrap64 (x13_3 + 1)), (x257000_3), (x257001_3), (by first | rfl | (simp; done) | (simp [*]; done)), (by first | rfl | (simp; done) | (simp [*]; done)), H', ⟨by have := HK1.out; have := HJ3.out; have := HK3.out; have := HJ11.out; have := HJ16.out; omega⟩, ⟨by (with_reducible repeat (first | apply Kd.R_alloc | apply Kd.R_drewN | apply Kd.R_drew)); exact HO_6.out⟩, ⟨by (with_reducible repeat (first | apply bd1 | apply bd2 | apply bd3)); exact BK256.out⟩, ⟨by repeat (first | (with_reducible first | exact HB.out | apply bw1 | apply bw2 | apply bw3 | refine below_set ?_ GE256.out) | exact HB.out)⟩⟩
              ·rw [if_neg c19] at H
               have c19b0 : (x16_16 == 0) = false := beq_eq_false_iff_ne.mpr c19
               have c19b1 : (x16_16 != 0) = true := bne_iff_ne.mpr c19
               simp only [Option.some.injEq, Prod.mk.injEq] at H
               obtain ⟨rfl, rfl, rfl, rfl⟩ := H
               go_wp2
               refine bodyPost_ret (results_list (rs := [.tmp 2, .tmp 3, .tmp 4, .tmp 5]) rfl (by simp) (.tmp (.tmp (.tmp (.tmp .nil))))) rfl ?_
               exact ⟨_, by first | rfl | (simp [*, errW_none, errW_some] <;> rfl), by first | exact Kd.R_nil _ _ _ _ _ | exact Kd.N_nil _ _ _ _ _ | exact Kd.V_nil _ _ _ _ _ | exact Kd.Q_nil _ _ _ _ _ | exact Kd.S_nil _ _ _ _ _, by repeat (first | (with_reducible first | exact HB.out | apply bw1 | apply bw2 | apply bw3 | refine below_set ?_ GE256.out) | exact HB.out)⟩
         ·rw [if_neg c10] at H
          have c10b0 : decide (x13_3 ≤ 4) = false := decide_eq_false c10
          clear c10
          by_cases c29 : x6_1.length < 3518437208883
          ·rw [if_pos c29] at H
           have LMc29 := Aside0.mk c29
           clear c29
           obtain ⟨y257, hy257⟩ : ∃ y_ : List (S35), y_ = (x6_1 ++ [(⟨x257000_3, x257001_3, t255⟩ : S35)]) := ⟨_, rfl⟩
           replace H : (treadleref13_Includes.l0 k3 a0 y257 x9_3) = some (r1, r2, r3, r4) := by first | (rw [hy257]; with_reducible exact H) | (have H2_ := (Option.bind_some _ _).symm.trans H; rw [hy257]; with_reducible exact H2_) | (have H2_ := (Option.bind_some _ _).symm.trans H; with_reducible exact H2_) | with_reducible exact H | (rw [hy257]; exact H) | exact H
           have Ny257 := Aside0.mk hy257
           clear hy257
           have H' := Aside0.mk H
           clear H
           have hcz30_0 : wr.cell? ⟨gb256, 0, none⟩ = some (.string x257000_3) := (blk_cell BK256.out 0).trans rfl
           have hcz30_1 : wr.cell? ⟨gb256, 1, none⟩ = some (.string x257001_3) := (blk_cell BK256.out 1).trans rfl
           have hcz30_2 : wr.cell? ⟨gb256, 2, none⟩ = some (.int .i64 t255) := (blk_cell BK256.out 2).trans rfl
           have hfz30_0 := blk_frozen BK256.out 0
           have hfz30_1 := blk_frozen BK256.out 1
           have hfz30_2 := blk_frozen BK256.out 2
           go_wp2_with (first | ((with_reducible refine gate_builtin (b := .append) (xs := #[.tmp 76, .tmp 78]) rfl ?_); at_builtin; refine Kd.R_append k35 (w0 := w) w.heap.size rfl (.tmp 76) (.tmp 78) 22 35 (.agg #[(.string ⟨#[]⟩), (.string ⟨#[]⟩), (.int .i64 0)]) 40 rfl Tryd.underlying22 info35 rfl (by decide) (by omega) u6 x6_1 (⟨x257000_3, x257001_3, t255⟩ : S35) [.string x257000_3, .string x257001_3, .int .i64 t255] (fun k_ => k_ ≠ gb256) (fun _ => False) rfl rfl ?aP (fun _ hk => hk.elim) ?aF ?aO ?aB ?aS ?aL ?_; (case aP => exact k35_mkM _ _ _ (⟨x257000_3, x257001_3, t255⟩ : S35)); (case aB => exact (by repeat (first | (with_reducible first | exact HB.out | apply bw1 | apply bw2 | apply bw3 | refine below_set ?_ GE256.out) | exact HB.out))); (case aF => exact (fun k_ hk => Kd.freshB (g := gb256) (o := .cells #[.string x257000_3, .string x257001_3, .int .i64 t255] 35 (0, 0)) (by (with_reducible repeat (first | apply bd1 | apply bd2 | apply bd3)); exact BK256.out) k_ hk)); (case aO => exact (by (with_reducible repeat (first | apply Kd.R_alloc | apply Kd.R_drewN | apply Kd.R_drew)); exact HO_6.out)); (case aS => exact (below_size (by repeat (first | (with_reducible first | exact HB.out | apply bw1 | apply bw2 | apply bw3 | refine below_set ?_ GE256.out) | exact HB.out)))); (case aL => have := LMc29.out; omega); intro v258 w31 ho hb hg hat; rw [← Ny257.out] at ho; have n0_ := Aside0.mk (blk_grown (g := gb256) (o := .cells #[.string x257000_3, .string x257001_3, .int .i64 t255] 35 (0, 0)) (by (with_reducible repeat (first | apply bd1 | apply bd2 | apply bd3)); exact BK256.out) hg (Kd.R_away HO_6.out (fun _ hk => hk))); have n1_ := Aside0.mk (hb); have n2_ := Aside0.mk (ho); clear BK256 HB HO_6; have BK256 := n0_; have HB := n1_; have HO259 := n2_; clear n0_ n1_ n2_; clear ho hb hg hat))
           go_roundg k3
           case measure => have := HK1.out; have := HJ3.out; have := HK3.out; omega
           case rel => exact ⟨(y257), (x9_3), (by first | rfl | (simp; done) | (simp [*]; done)), H', ⟨by have := HK1.out; have := HJ3.out; have := HK3.out; omega⟩, ⟨by (with_reducible repeat (first | apply Kd.R_alloc | apply Kd.R_drewN | apply Kd.R_drew)); exact Kd.R_mono HO259.out (fun _ hk => trivial)⟩, ⟨by repeat (first | (with_reducible first | exact HB.out | apply bw1 | apply bw2 | apply bw3 | refine below_set ?_ GE256.out) | exact HB.out)⟩⟩
          ·rw [if_neg c29] at H
           exact absurd H (by simp)
end Go.Proofs.YtifachjefpcgcaaDoor.P
