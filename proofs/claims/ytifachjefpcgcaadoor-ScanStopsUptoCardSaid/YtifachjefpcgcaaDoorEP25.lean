import Derived.Test.YtifachjefpcgcaaDoorEPD
import Derived.Test.YtifachjefpcgcaaDoorEP1
import Derived.Test.YtifachjefpcgcaaDoorEP7
import Derived.Test.YtifachjefpcgcaaDoorEP12
import Derived.Test.YtifachjefpcgcaaDoorEP24
namespace Go.Proofs.YtifachjefpcgcaaDoor.P
open Go.RowKit Go.Proofs.YtifachjefpcgcaaDoorW.PrintWords Go.Proofs.YtifachjefpcgcaaDoorW.PrintLast Go.Proofs.YtifachjefpcgcaaDoorW.PrintMore
attribute [local go_sem] max2_int min2_int max_two min_two max_three min_three max_four min_four
set_option linter.unusedVariables false
set_option linter.unusedSimpArgs false
attribute [local go_sem high] eqA25
set_option maxHeartbeats 8000000 in
set_option maxRecDepth 100000 in
theorem lex_just.calls (k : Nat) (a0 : ByteArray) (a1 : Int) (r : Bool) (w : World) (h : lex_just.f k a0 a1 = some r) (hI_ : Inv w) :
  Calls Tryd.prog 27 #[.string a0, .int .i64 a1] w fun e w' => e = .returned (.bool r) ∧ Below w.heap.size w w' := by
 have HI := Aside0.mk hI_
 clear hI_
 have HB := Aside0.mk (Below.refl w.heap.size w)
 have H : (if a0.toList = ([] : List UInt8) then (some false) else ((lex_token.f k a0).bind fun bt352 => (if bt352.2.2 = 0 then (if bt352.1 = a1 then (some (bt352.2.1 == (a0.size : Int))) else (some false)) else (some false)))) = some r := h
 clear h
 by_cases c3 : a0.toList = ([] : List UInt8)
 ·rw [if_pos c3] at H
  have c3b0 : (a0.toList == ([] : List UInt8)) = true := beq_iff_eq.mpr c3
  have c3b1 : (a0.toList != ([] : List UInt8)) = false := bne_eq_false_iff_eq.mpr c3
  have c3b2 : a0.toList.isEmpty = true := by simpa using c3
  clear c3
  obtain rfl := Option.some.inj H
  go_enter Tryd.func27, Tryd.ntmps27
  go_wp2
  go_ret
  exact ⟨by first | rfl | (simp [errW_none, errW_some] <;> rfl) | (simp [*, errW_none, errW_some] <;> rfl), by repeat (first | (with_reducible first | exact HB.out | apply bw1 | apply bw2 | apply bw3) | exact HB.out)⟩
 ·rw [if_neg c3] at H
  have c3b0 : (a0.toList == ([] : List UInt8)) = false := beq_eq_false_iff_ne.mpr c3
  have c3b1 : (a0.toList != ([] : List UInt8)) = true := bne_iff_ne.mpr c3
  have c3b2 : a0.toList.isEmpty = false := by simpa using c3
  replace H := Option.bind_eq_some_iff.mp H
  obtain ⟨⟨t352, t353, t354⟩, A40, H⟩ := H
  replace H : (if t354 = 0 then (if t352 = a1 then (some (t353 == (a0.size : Int))) else (some false)) else (some false)) = some r := H
  have A4 := Aside0.mk A40
  clear A40
  by_cases c5 : t354 = 0
  ·rw [if_pos c5] at H
   have c5b0 : (t354 == 0) = true := beq_iff_eq.mpr c5
   have c5b1 : (t354 != 0) = false := bne_eq_false_iff_eq.mpr c5
   clear c5
   by_cases c6 : t352 = a1
   ·rw [if_pos c6] at H
    have c6b0 : (t352 == a1) = true := beq_iff_eq.mpr c6
    have c6b1 : (t352 != a1) = false := bne_eq_false_iff_eq.mpr c6
    clear c6
    obtain rfl := Option.some.inj H
    go_enter Tryd.func27, Tryd.ntmps27
    go_wp2_with (first | ((with_reducible refine gate_callee (f := 36) rfl ?_); refine goesL_ (some 12) rfl rfl Tryd.func36 (by kernel_rfl) rfl #[.string a0] rfl (by (try simp only [List.map_toArray, List.map_cons, List.map_nil]); first | done | rfl | (simp only [List.length_drop, List.length_take]; rfl)) ?_; (with_reducible refine (lex_token.calls k a0 t352 t353 t354 _ A4.out (by first | exact HI.out | exact Inv.below HI.out (by repeat (first | (with_reducible first | exact HB.out | apply bw1 | apply bw2 | apply bw3) | exact HB.out)) | exact Inv.drawn HI.out (by repeat (first | exact Drawn0.refl _ | apply Drawn0.step)))).mono ?_); rintro e w7 ⟨rfl, hb⟩; refine ⟨_, rfl, ?_⟩; have n0_ := Aside0.mk (below_step (by repeat (first | (with_reducible first | exact HB.out | apply bw1 | apply bw2 | apply bw3) | exact HB.out)) hb); clear HB; have HB := n0_; clear n0_; (try clear hb); (try clear hb2); (try clear hk); (try clear hi)))
    go_ret
    exact ⟨by first | rfl | (simp [errW_none, errW_some] <;> rfl) | (simp [*, errW_none, errW_some] <;> rfl), by repeat (first | (with_reducible first | exact HB.out | apply bw1 | apply bw2 | apply bw3) | exact HB.out)⟩
   ·rw [if_neg c6] at H
    have c6b0 : (t352 == a1) = false := beq_eq_false_iff_ne.mpr c6
    have c6b1 : (t352 != a1) = true := bne_iff_ne.mpr c6
    obtain rfl := Option.some.inj H
    go_enter Tryd.func27, Tryd.ntmps27
    go_wp2_with (first | ((with_reducible refine gate_callee (f := 36) rfl ?_); refine goesL_ (some 12) rfl rfl Tryd.func36 (by kernel_rfl) rfl #[.string a0] rfl (by (try simp only [List.map_toArray, List.map_cons, List.map_nil]); first | done | rfl | (simp only [List.length_drop, List.length_take]; rfl)) ?_; (with_reducible refine (lex_token.calls k a0 t352 t353 t354 _ A4.out (by first | exact HI.out | exact Inv.below HI.out (by repeat (first | (with_reducible first | exact HB.out | apply bw1 | apply bw2 | apply bw3) | exact HB.out)) | exact Inv.drawn HI.out (by repeat (first | exact Drawn0.refl _ | apply Drawn0.step)))).mono ?_); rintro e w8 ⟨rfl, hb⟩; refine ⟨_, rfl, ?_⟩; have n0_ := Aside0.mk (below_step (by repeat (first | (with_reducible first | exact HB.out | apply bw1 | apply bw2 | apply bw3) | exact HB.out)) hb); clear HB; have HB := n0_; clear n0_; (try clear hb); (try clear hb2); (try clear hk); (try clear hi)))
    go_ret
    exact ⟨by first | rfl | (simp [errW_none, errW_some] <;> rfl) | (simp [*, errW_none, errW_some] <;> rfl), by repeat (first | (with_reducible first | exact HB.out | apply bw1 | apply bw2 | apply bw3) | exact HB.out)⟩
  ·rw [if_neg c5] at H
   have c5b0 : (t354 == 0) = false := beq_eq_false_iff_ne.mpr c5
   have c5b1 : (t354 != 0) = true := bne_iff_ne.mpr c5
   obtain rfl := Option.some.inj H
   go_enter Tryd.func27, Tryd.ntmps27
   go_wp2_with (first | ((with_reducible refine gate_callee (f := 36) rfl ?_); refine goesL_ (some 12) rfl rfl Tryd.func36 (by kernel_rfl) rfl #[.string a0] rfl (by (try simp only [List.map_toArray, List.map_cons, List.map_nil]); first | done | rfl | (simp only [List.length_drop, List.length_take]; rfl)) ?_; (with_reducible refine (lex_token.calls k a0 t352 t353 t354 _ A4.out (by first | exact HI.out | exact Inv.below HI.out (by repeat (first | (with_reducible first | exact HB.out | apply bw1 | apply bw2 | apply bw3) | exact HB.out)) | exact Inv.drawn HI.out (by repeat (first | exact Drawn0.refl _ | apply Drawn0.step)))).mono ?_); rintro e w9 ⟨rfl, hb⟩; refine ⟨_, rfl, ?_⟩; have n0_ := Aside0.mk (below_step (by repeat (first | (with_reducible first | exact HB.out | apply bw1 | apply bw2 | apply bw3) | exact HB.out)) hb); clear HB; have HB := n0_; clear n0_; (try clear hb); (try clear hb2); (try clear hk); (try clear hi)))
   go_ret
   exact ⟨by first | rfl | (simp [errW_none, errW_some] <;> rfl) | (simp [*, errW_none, errW_some] <;> rfl), by repeat (first | (with_reducible first | exact HB.out | apply bw1 | apply bw2 | apply bw3) | exact HB.out)⟩
set_option maxHeartbeats 8000000 in
set_option maxRecDepth 100000 in
theorem lex_Word.calls (k : Nat) (a0 : ByteArray) (r : Bool) (w : World) (h : lex_Word.f k a0 = some r) (hI_ : Inv w) :
  Calls Tryd.prog 20 #[.string a0] w fun e w' => e = .returned (.bool r) ∧ Below w.heap.size w w' := by
 have HI := Aside0.mk hI_
 clear hI_
 have HB := Aside0.mk (Below.refl w.heap.size w)
 have H : ((lex_just.f k a0 1).bind fun t355 => (some t355)) = some r := h
 clear h
 replace H := Option.bind_eq_some_iff.mp H
 obtain ⟨t355, A20, H⟩ := H
 replace H : (some t355) = some r := H
 have A2 := Aside0.mk A20
 clear A20
 obtain rfl := Option.some.inj H
 go_enter Tryd.func20, Tryd.ntmps20
 go_wp2_with (first | ((with_reducible refine gate_callee (f := 27) rfl ?_); refine goesL_ (some 4) rfl rfl Tryd.func27 (by kernel_rfl) rfl #[.string a0, .int .i64 1] rfl (by (try simp only [List.map_toArray, List.map_cons, List.map_nil]); first | done | rfl | (simp only [List.length_drop, List.length_take]; rfl)) ?_; (with_reducible refine (lex_just.calls k a0 1 t355 _ A2.out (by first | exact HI.out | exact Inv.below HI.out (by repeat (first | (with_reducible first | exact HB.out | apply bw1 | apply bw2 | apply bw3) | exact HB.out)) | exact Inv.drawn HI.out (by repeat (first | exact Drawn0.refl _ | apply Drawn0.step)))).mono ?_); rintro e w3 ⟨rfl, hb⟩; refine ⟨_, rfl, ?_⟩; have n0_ := Aside0.mk (below_step (by repeat (first | (with_reducible first | exact HB.out | apply bw1 | apply bw2 | apply bw3) | exact HB.out)) hb); clear HB; have HB := n0_; clear n0_; (try clear hb); (try clear hb2); (try clear hk); (try clear hi)))
 go_ret
 exact ⟨by first | rfl | (simp [errW_none, errW_some] <;> rfl) | (simp [*, errW_none, errW_some] <;> rfl), by repeat (first | (with_reducible first | exact HB.out | apply bw1 | apply bw2 | apply bw3) | exact HB.out)⟩
set_option maxHeartbeats 8000000 in
set_option maxRecDepth 100000 in
theorem scan_With.calls (k : Nat) (a0 : ByteArray) (A1 : Option Addr) (c1 : Nat) (l1 : List (S35)) (r1 : ByteArray) (r2 : Int) (w : World) (hr1 : Kd.C k35 w A1 l1.length l1) (hc1 : l1.length ≤ c1) (h : scan_With.f k a0 l1 = some (r1, r2)) (hI_ : Inv w) :
  Calls Tryd.prog 13 #[.string a0, .slice A1 l1.length c1] w fun e w' => e = .returned (.tuple #[.string r1, .int .i64 r2]) ∧ Below w.heap.size w w' := by
 have HI := Aside0.mk hI_
 clear hI_
 have hu25 := Tryd.underlying25
 have hu35 := Tryd.underlying35
 have HR1 := Aside0.mk hr1
 have HC1 := Aside0.mk hc1
 clear hr1 hc1
 have HB := Aside0.mk (Below.refl w.heap.size w)
 have H : ((scan_found.f k a0).bind fun bt356 => (if (!(bt356.2.2.1 == 0) || (!(bt356.2.2.2 == 0))) = true then (some ((⟨#[]⟩ : ByteArray), bt356.2.2.1)) else (scan_With.l0 k a0 bt356.2.1 ([] : List Int) l1 (l1.length : Int) 0))) = some (r1, r2) := h
 clear h
 replace H := Option.bind_eq_some_iff.mp H
 obtain ⟨⟨t356, t359, t360, t361⟩, A30, H⟩ := H
 replace H : (if (!(t360 == 0) || (!(t361 == 0))) = true then (some ((⟨#[]⟩ : ByteArray), t360)) else (scan_With.l0 k a0 t359 ([] : List Int) l1 (l1.length : Int) 0)) = some (r1, r2) := H
 have A3 := Aside0.mk A30
 clear A30
 by_cases c4 : (!(t360 == 0) || (!(t361 == 0))) = true
 ·rw [if_pos c4] at H
  have c4b0 : (!(t360 == 0) || (!(t361 == 0))) = true := c4
  clear c4
  simp only [Option.some.injEq, Prod.mk.injEq] at H
  obtain ⟨rfl, rfl⟩ := H
  go_enter Tryd.func13, Tryd.ntmps13
  go_wp2_with (first | (go_at_call 15; (with_reducible refine (scan_found.calls k a0 t356 t359 t360 t361 _ A3.out (by first | exact HI.out | exact Inv.below HI.out (by repeat (first | (with_reducible first | exact HB.out | apply bw1 | apply bw2 | apply bw3) | exact HB.out)) | exact Inv.drawn HI.out (by repeat (first | exact Drawn0.refl _ | apply Drawn0.step)))).mono ?_); rintro e w5 ⟨v357, rfl, ho0, hb⟩; have n0_ := Aside0.mk (Kd.R_lower ho0 (below_size (by repeat (first | (with_reducible first | exact HB.out | apply bw1 | apply bw2 | apply bw3) | exact HB.out)))); have n1_ := Aside0.mk (below_step (by repeat (first | (with_reducible first | exact HB.out | apply bw1 | apply bw2 | apply bw3) | exact HB.out)) hb); clear HB; have HO358 := n0_; have HB := n1_; clear n0_ n1_; (try clear hb); (try clear hb2); (try clear hk); (try clear hi); (try clear ho0)) | ((with_reducible refine gate_dst (N := 8) rfl ?_); refine box_event ?hg (N := 8) ?hd (cs := #[.int .i64 0, .int .i64 0]) (t := 25) ?hr ?_; (case hd => rfl); (case hg => rfl); (case hr => first | (go_simp; done) | (go_simp; rfl)); intro gb362 hg w6 hbox hb; have n0_ := Aside0.mk (Kd.R_below (by (with_reducible repeat (first | apply Kd.R_alloc | apply Kd.R_drewN | apply Kd.R_drew)); exact HO358.out) hb); have n1_ := Aside0.mk (below_step (by repeat (first | (with_reducible first | exact HB.out | apply bw1 | apply bw2 | apply bw3) | exact HB.out)) hb); have n2_ := Aside0.mk (hbox); have n3_ := Aside0.mk ((by rw [hg]; exact (below_size (by repeat (first | (with_reducible first | exact HB.out | apply bw1 | apply bw2 | apply bw3) | exact HB.out))) : w.heap.size ≤ gb362)); have n4_ := Aside0.mk (n3_.out); clear HO358 HB; have HO358 := n0_; have HB := n1_; have BK362 := n2_; have GW362 := n3_; have GE362 := n4_; clear n0_ n1_ n2_ n3_ n4_; clear hb hbox hg; have hcz7_0 : w6.cell? ⟨gb362, 0, none⟩ = some (.int .i64 0) := (blk_cell BK362.out 0).trans rfl; have hcz7_1 : w6.cell? ⟨gb362, 1, none⟩ = some (.int .i64 0) := (blk_cell BK362.out 1).trans rfl; have hfz7_0 := blk_frozen BK362.out 0; have hfz7_1 := blk_frozen BK362.out 1))
  repeat (go_quiet (first | (go_at_call 15; (with_reducible refine (scan_found.calls k a0 t356 t359 t360 t361 _ A3.out (by first | exact HI.out | exact Inv.below HI.out (by repeat (first | (with_reducible first | exact HB.out | apply bw1 | apply bw2 | apply bw3) | exact HB.out)) | exact Inv.drawn HI.out (by repeat (first | exact Drawn0.refl _ | apply Drawn0.step)))).mono ?_); rintro e w5 ⟨v357, rfl, ho0, hb⟩; have n0_ := Aside0.mk (Kd.R_lower ho0 (below_size (by repeat (first | (with_reducible first | exact HB.out | apply bw1 | apply bw2 | apply bw3) | exact HB.out)))); have n1_ := Aside0.mk (below_step (by repeat (first | (with_reducible first | exact HB.out | apply bw1 | apply bw2 | apply bw3) | exact HB.out)) hb); clear HB; have HO358 := n0_; have HB := n1_; clear n0_ n1_; (try clear hb); (try clear hb2); (try clear hk); (try clear hi); (try clear ho0)) | ((with_reducible refine gate_dst (N := 8) rfl ?_); refine box_event ?hg (N := 8) ?hd (cs := #[.int .i64 0, .int .i64 0]) (t := 25) ?hr ?_; (case hd => rfl); (case hg => rfl); (case hr => first | (go_simp; done) | (go_simp; rfl)); intro gb362 hg w6 hbox hb; have n0_ := Aside0.mk (Kd.R_below (by (with_reducible repeat (first | apply Kd.R_alloc | apply Kd.R_drewN | apply Kd.R_drew)); exact HO358.out) hb); have n1_ := Aside0.mk (below_step (by repeat (first | (with_reducible first | exact HB.out | apply bw1 | apply bw2 | apply bw3) | exact HB.out)) hb); have n2_ := Aside0.mk (hbox); have n3_ := Aside0.mk ((by rw [hg]; exact (below_size (by repeat (first | (with_reducible first | exact HB.out | apply bw1 | apply bw2 | apply bw3) | exact HB.out))) : w.heap.size ≤ gb362)); have n4_ := Aside0.mk (n3_.out); clear HO358 HB; have HO358 := n0_; have HB := n1_; have BK362 := n2_; have GW362 := n3_; have GE362 := n4_; clear n0_ n1_ n2_ n3_ n4_; clear hb hbox hg; have hcz7_0 : w6.cell? ⟨gb362, 0, none⟩ = some (.int .i64 0) := (blk_cell BK362.out 0).trans rfl; have hcz7_1 : w6.cell? ⟨gb362, 1, none⟩ = some (.int .i64 0) := (blk_cell BK362.out 1).trans rfl; have hfz7_0 := blk_frozen BK362.out 0; have hfz7_1 := blk_frozen BK362.out 1)); try go_wp2_with (first | (go_at_call 15; (with_reducible refine (scan_found.calls k a0 t356 t359 t360 t361 _ A3.out (by first | exact HI.out | exact Inv.below HI.out (by repeat (first | (with_reducible first | exact HB.out | apply bw1 | apply bw2 | apply bw3) | exact HB.out)) | exact Inv.drawn HI.out (by repeat (first | exact Drawn0.refl _ | apply Drawn0.step)))).mono ?_); rintro e w5 ⟨v357, rfl, ho0, hb⟩; have n0_ := Aside0.mk (Kd.R_lower ho0 (below_size (by repeat (first | (with_reducible first | exact HB.out | apply bw1 | apply bw2 | apply bw3) | exact HB.out)))); have n1_ := Aside0.mk (below_step (by repeat (first | (with_reducible first | exact HB.out | apply bw1 | apply bw2 | apply bw3) | exact HB.out)) hb); clear HB; have HO358 := n0_; have HB := n1_; clear n0_ n1_; (try clear hb); (try clear hb2); (try clear hk); (try clear hi); (try clear ho0)) | ((with_reducible refine gate_dst (N := 8) rfl ?_); refine box_event ?hg (N := 8) ?hd (cs := #[.int .i64 0, .int .i64 0]) (t := 25) ?hr ?_; (case hd => rfl); (case hg => rfl); (case hr => first | (go_simp; done) | (go_simp; rfl)); intro gb362 hg w6 hbox hb; have n0_ := Aside0.mk (Kd.R_below (by (with_reducible repeat (first | apply Kd.R_alloc | apply Kd.R_drewN | apply Kd.R_drew)); exact HO358.out) hb); have n1_ := Aside0.mk (below_step (by repeat (first | (with_reducible first | exact HB.out | apply bw1 | apply bw2 | apply bw3) | exact HB.out)) hb); have n2_ := Aside0.mk (hbox); have n3_ := Aside0.mk ((by rw [hg]; exact (below_size (by repeat (first | (with_reducible first | exact HB.out | apply bw1 | apply bw2 | apply bw3) | exact HB.out))) : w.heap.size ≤ gb362)); have n4_ := Aside0.mk (n3_.out); clear HO358 HB; have HO358 := n0_; have HB := n1_; have BK362 := n2_; have GW362 := n3_; have GE362 := n4_; clear n0_ n1_ n2_ n3_ n4_; clear hb hbox hg; have hcz7_0 : w6.cell? ⟨gb362, 0, none⟩ = some (.int .i64 0) := (blk_cell BK362.out 0).trans rfl; have hcz7_1 : w6.cell? ⟨gb362, 1, none⟩ = some (.int .i64 0) := (blk_cell BK362.out 1).trans rfl; have hfz7_0 := blk_frozen BK362.out 0; have hfz7_1 := blk_frozen BK362.out 1)))
  go_ret2
  exact ⟨by first | rfl | (simp [errW_none, errW_some] <;> rfl) | (simp [*, errW_none, errW_some] <;> rfl), by repeat (first | (with_reducible first | exact HB.out | apply bw1 | apply bw2 | apply bw3 | refine below_set ?_ GE362.out) | exact HB.out)⟩
 ·rw [if_neg c4] at H
  have c4b0 : (!(t360 == 0) || (!(t361 == 0))) = false := by simpa using c4
  clear c4
  have H' := Aside0.mk H
  clear H
  go_enter Tryd.func13, Tryd.ntmps13
  go_wp2_with (first | (go_at_call 15; (with_reducible refine (scan_found.calls k a0 t356 t359 t360 t361 _ A3.out (by first | exact HI.out | exact Inv.below HI.out (by repeat (first | (with_reducible first | exact HB.out | apply bw1 | apply bw2 | apply bw3) | exact HB.out)) | exact Inv.drawn HI.out (by repeat (first | exact Drawn0.refl _ | apply Drawn0.step)))).mono ?_); rintro e w8 ⟨v357, rfl, ho0, hb⟩; have n0_ := Aside0.mk (Kd.R_lower ho0 (below_size (by repeat (first | (with_reducible first | exact HB.out | apply bw1 | apply bw2 | apply bw3) | exact HB.out)))); have n1_ := Aside0.mk (below_step (by repeat (first | (with_reducible first | exact HB.out | apply bw1 | apply bw2 | apply bw3) | exact HB.out)) hb); clear HB; have HO358 := n0_; have HB := n1_; clear n0_ n1_; (try clear hb); (try clear hb2); (try clear hk); (try clear hi); (try clear ho0)) | ((with_reducible refine gate_dst (N := 8) rfl ?_); refine box_event ?hg (N := 8) ?hd (cs := #[.int .i64 0, .int .i64 0]) (t := 25) ?hr ?_; (case hd => rfl); (case hg => rfl); (case hr => first | (go_simp; done) | (go_simp; rfl)); intro gb362 hg w9 hbox hb; have n0_ := Aside0.mk (Kd.R_below (by (with_reducible repeat (first | apply Kd.R_alloc | apply Kd.R_drewN | apply Kd.R_drew)); exact HO358.out) hb); have n1_ := Aside0.mk (below_step (by repeat (first | (with_reducible first | exact HB.out | apply bw1 | apply bw2 | apply bw3) | exact HB.out)) hb); have n2_ := Aside0.mk (hbox); have n3_ := Aside0.mk ((by rw [hg]; exact (below_size (by repeat (first | (with_reducible first | exact HB.out | apply bw1 | apply bw2 | apply bw3) | exact HB.out))) : w.heap.size ≤ gb362)); have n4_ := Aside0.mk (n3_.out); clear HO358 HB; have HO358 := n0_; have HB := n1_; have BK362 := n2_; have GW362 := n3_; have GE362 := n4_; clear n0_ n1_ n2_ n3_ n4_; clear hb hbox hg; have hcz10_0 : w9.cell? ⟨gb362, 0, none⟩ = some (.int .i64 0) := (blk_cell BK362.out 0).trans rfl; have hcz10_1 : w9.cell? ⟨gb362, 1, none⟩ = some (.int .i64 0) := (blk_cell BK362.out 1).trans rfl; have hfz10_0 := blk_frozen BK362.out 0; have hfz10_1 := blk_frozen BK362.out 1))
  go_loopg [9, 27] k (fun kq v9 v27 w' => ∃ (x9_1 : List Int) (x27_1 : Int), v27 = .int .i64 x27_1 ∧ Aside0 (scan_With.l0 kq a0 t359 x9_1 l1 (l1.length : Int) x27_1 = some (r1, r2)) ∧ Aside0 (kq ≤ k) ∧ Aside0 (Kd.R (Kd.int .u8) 5 w' w.heap.size (fun _ => True) v9 x9_1) ∧ Aside0 (w'.heap[gb362]? = some (.cells #[.int .i64 t360, .int .i64 t361] 25 (0, 0))) ∧ Aside0 (Below w.heap.size w w'))
  case atStart => exact ⟨(([] : List Int)), (0), (by first | rfl | (simp; done) | (simp [*]; done)), H', ⟨Nat.le_refl _⟩, ⟨by first | exact Kd.R_nil _ _ _ _ _ | exact Kd.N_nil _ _ _ _ _ | exact Kd.V_nil _ _ _ _ _ | exact Kd.Q_nil _ _ _ _ _ | exact Kd.S_nil _ _ _ _ _⟩, ⟨by (with_reducible repeat (first | apply bd1 | apply bd2 | apply bd3)); refine blk_put (cs := #[.int .i64 t360, .int .i64 0]) ?_ 1 _ rfl; (with_reducible repeat (first | apply bd1 | apply bd2 | apply bd3)); refine blk_put (cs := #[.int .i64 0, .int .i64 0]) ?_ 0 _ rfl; (with_reducible repeat (first | apply bd1 | apply bd2 | apply bd3)); exact BK362.out⟩, ⟨by repeat (first | (with_reducible first | exact HB.out | apply bw1 | apply bw2 | apply bw3 | refine below_set ?_ GE362.out) | exact HB.out)⟩⟩
  case round =>
   clear H'
   try clear c1
   try clear p2
   try clear c4
   try clear c4b0
   try clear hcz10_0
   try clear hcz10_1
   try clear hcz7_0
   try clear hcz7_1
   try clear hfz10_0
   try clear hfz10_1
   try clear hfz7_0
   try clear hfz7_1
   obtain ⟨x9_1, x27_1, rfl, HA, HK1, HO_9, BK362, HB⟩ := hrel
   cases gk with
   | zero => exact absurd HA.out (by simp [scan_With.l0])
   | succ k1 =>
    have H := HA.out
    clear HA
    simp only [scan_With.l0] at H
    by_cases c11 : x27_1 < (l1.length : Int)
    ·rw [if_pos c11] at H
     have c11b0 : decide (x27_1 < (l1.length : Int)) = true := decide_eq_true c11
     clear c11
     by_cases c12 : 0 ≤ x27_1
     ·rw [if_pos c12] at H
      have c12b0 : decide (0 ≤ x27_1) = true := decide_eq_true c12
      clear c12
      by_cases c13 : x27_1 < (l1.length : Int)
      ·rw [if_pos c13] at H
       have c13b0 : decide (x27_1 < (l1.length : Int)) = true := decide_eq_true c13
       clear c13
       replace H := Option.bind_eq_some_iff.mp H
       obtain ⟨⟨t368, t369⟩, A140, H⟩ := H
       replace H : (if t369 = 0 then ((lex_Word.f k1 ((rd_T35 l1 x27_1).f1)).bind fun t370 => (scan_With.j1 k1 a0 t359 x9_1 t368 l1 (l1.length : Int) x27_1 (!t370) ((rd_T35 l1 x27_1).f0) ((rd_T35 l1 x27_1).f1) ((rd_T35 l1 x27_1).f2))) else (scan_With.j1 k1 a0 t359 x9_1 t368 l1 (l1.length : Int) x27_1 true ((rd_T35 l1 x27_1).f0) ((rd_T35 l1 x27_1).f1) ((rd_T35 l1 x27_1).f2))) = some (r1, r2) := H
       have A14 := Aside0.mk A140
       clear A140
       have HC15 := Aside0.mk H
       clear H
       have p366 : 0 ≤ (x27_1 : Int) := of_decide_eq_true (by first | (with_reducible assumption) | assumption)
       have q366 : x27_1 < (l1.length : Int) := of_decide_eq_true (by first | (with_reducible assumption) | assumption)
       obtain ⟨ad366, e366, hx366_0, hx366_1, hx366_2⟩ := at_T35 HR1.out x27_1 p366 q366
       cases e366
       replace hx366_0 := (HB.out.cell (World.block_lt_of_cell? w _ hx366_0)).trans hx366_0
       replace hx366_1 := (HB.out.cell (World.block_lt_of_cell? w _ hx366_1)).trans hx366_1
       replace hx366_2 := (HB.out.cell (World.block_lt_of_cell? w _ hx366_2)).trans hx366_2
       replace p366 := eq_true p366
       replace q366 := eq_true q366
       go_upto_region 9 with (first | ((with_reducible refine gate_dst (N := 11) rfl ?_); refine box_event ?hg (N := 11) ?hd (cs := #[.string (⟨#[]⟩ : ByteArray), .string (⟨#[]⟩ : ByteArray), .int .i64 0]) (t := 35) ?hr ?_; (case hd => rfl); (case hg => rfl); (case hr => first | (go_simp; done) | (go_simp; rfl)); intro gb367 hg w16 hbox hb; have n0_ := Aside0.mk (Kd.R_below (by (with_reducible repeat (first | apply Kd.R_alloc | apply Kd.R_drewN | apply Kd.R_drew)); exact HO_9.out) hb); have n1_ := Aside0.mk (blk_below (g := gb362) (o := .cells #[.int .i64 t360, .int .i64 t361] 25 (0, 0)) (by (with_reducible repeat (first | apply bd1 | apply bd2 | apply bd3)); exact BK362.out) hb); have n2_ := Aside0.mk (below_step (by repeat (first | (with_reducible first | exact HB.out | apply bw1 | apply bw2 | apply bw3 | refine below_set ?_ GE362.out) | exact HB.out)) hb); have n3_ := Aside0.mk (hbox); have n4_ := Aside0.mk ((by rw [hg]; exact (below_size (by repeat (first | (with_reducible first | exact HB.out | apply bw1 | apply bw2 | apply bw3 | refine below_set ?_ GE362.out) | exact HB.out))) : w.heap.size ≤ gb367)); have n5_ := Aside0.mk (n4_.out); have n6_ := Aside0.mk ((by rw [hg]; exact Nat.ne_of_lt (blk_lt (g := gb362) (o := .cells #[.int .i64 t360, .int .i64 t361] 25 (0, 0)) (by (with_reducible repeat (first | apply bd1 | apply bd2 | apply bd3)); exact BK362.out)) : gb362 ≠ gb367)); have n7_ := Aside0.mk (Ne.symm n6_.out); clear HO_9 BK362 HB; have HO_9 := n0_; have BK362 := n1_; have HB := n2_; have BK367 := n3_; have GW367 := n4_; have GE367 := n5_; have NB362_367 := n6_; have NB367_362 := n7_; clear n0_ n1_ n2_ n3_ n4_ n5_ n6_ n7_; clear hb hbox hg; have hnb17 := NB367_362.out; have hnc17 := NB362_367.out; have hcz18_0 : w16.cell? ⟨gb367, 0, none⟩ = some (.string (⟨#[]⟩ : ByteArray)) := (blk_cell BK367.out 0).trans rfl; have hcz18_1 : w16.cell? ⟨gb367, 1, none⟩ = some (.string (⟨#[]⟩ : ByteArray)) := (blk_cell BK367.out 1).trans rfl; have hcz18_2 : w16.cell? ⟨gb367, 2, none⟩ = some (.int .i64 0) := (blk_cell BK367.out 2).trans rfl; have hfz18_0 := blk_frozen BK367.out 0; have hfz18_1 := blk_frozen BK367.out 1; have hfz18_2 := blk_frozen BK367.out 2) | (go_at_call 19; (with_reducible refine (lex_Quote.calls k1 ((rd_T35 l1 x27_1).f0) t368 t369 _ A14.out).mono ?_); rintro e w19 ⟨rfl, hb⟩; have n0_ := Aside0.mk (Kd.R_below (by (with_reducible repeat (first | apply Kd.R_alloc | apply Kd.R_drewN | apply Kd.R_drew)); exact (Kd.R_mono (Kd.R_far (p := ⟨gb367, 2, none⟩) (Kd.R_far (p := ⟨gb367, 1, none⟩) (Kd.R_far (p := ⟨gb367, 0, none⟩) (Kd.R_types HO_9.out BK367.out (by decide)) (fun _ hk => hk.2) (.string ((rd_T35 l1 x27_1).f0))) (fun _ hk => hk.2) (.string ((rd_T35 l1 x27_1).f1))) (fun _ hk => hk.2) (.int .i64 ((rd_T35 l1 x27_1).f2))) (fun _ h_ => h_.1))) hb); have n1_ := Aside0.mk (blk_below (g := gb362) (o := .cells #[.int .i64 t360, .int .i64 t361] 25 (0, 0)) (by (with_reducible repeat (first | apply bd1 | apply bd2 | apply bd3)); refine blk_far ?_ NB362_367.out _; (with_reducible repeat (first | apply bd1 | apply bd2 | apply bd3)); refine blk_far ?_ NB362_367.out _; (with_reducible repeat (first | apply bd1 | apply bd2 | apply bd3)); refine blk_far ?_ NB362_367.out _; (with_reducible repeat (first | apply bd1 | apply bd2 | apply bd3)); exact BK362.out) hb); have n2_ := Aside0.mk (blk_below (g := gb367) (o := .cells #[.string ((rd_T35 l1 x27_1).f0), .string ((rd_T35 l1 x27_1).f1), .int .i64 ((rd_T35 l1 x27_1).f2)] 35 (0, 0)) (by (with_reducible repeat (first | apply bd1 | apply bd2 | apply bd3)); refine blk_put (cs := #[.string ((rd_T35 l1 x27_1).f0), .string ((rd_T35 l1 x27_1).f1), .int .i64 0]) ?_ 2 _ rfl; (with_reducible repeat (first | apply bd1 | apply bd2 | apply bd3)); refine blk_put (cs := #[.string ((rd_T35 l1 x27_1).f0), .string (⟨#[]⟩ : ByteArray), .int .i64 0]) ?_ 1 _ rfl; (with_reducible repeat (first | apply bd1 | apply bd2 | apply bd3)); refine blk_put (cs := #[.string (⟨#[]⟩ : ByteArray), .string (⟨#[]⟩ : ByteArray), .int .i64 0]) ?_ 0 _ rfl; (with_reducible repeat (first | apply bd1 | apply bd2 | apply bd3)); exact BK367.out) hb); have n3_ := Aside0.mk (below_step (by repeat (first | (with_reducible first | exact HB.out | apply bw1 | apply bw2 | apply bw3 | refine below_set ?_ GE362.out | refine below_set ?_ GE367.out) | exact HB.out)) hb); clear HO_9 BK362 BK367 HB; have HO_9 := n0_; have BK362 := n1_; have BK367 := n2_; have HB := n3_; clear n0_ n1_ n2_ n3_; (try clear hb); (try clear hb2); (try clear hk); (try clear hi)))
       repeat (go_quiet (first | ((with_reducible refine gate_dst (N := 11) rfl ?_); refine box_event ?hg (N := 11) ?hd (cs := #[.string (⟨#[]⟩ : ByteArray), .string (⟨#[]⟩ : ByteArray), .int .i64 0]) (t := 35) ?hr ?_; (case hd => rfl); (case hg => rfl); (case hr => first | (go_simp; done) | (go_simp; rfl)); intro gb367 hg w16 hbox hb; have n0_ := Aside0.mk (Kd.R_below (by (with_reducible repeat (first | apply Kd.R_alloc | apply Kd.R_drewN | apply Kd.R_drew)); exact HO_9.out) hb); have n1_ := Aside0.mk (blk_below (g := gb362) (o := .cells #[.int .i64 t360, .int .i64 t361] 25 (0, 0)) (by (with_reducible repeat (first | apply bd1 | apply bd2 | apply bd3)); exact BK362.out) hb); have n2_ := Aside0.mk (below_step (by repeat (first | (with_reducible first | exact HB.out | apply bw1 | apply bw2 | apply bw3 | refine below_set ?_ GE362.out) | exact HB.out)) hb); have n3_ := Aside0.mk (hbox); have n4_ := Aside0.mk ((by rw [hg]; exact (below_size (by repeat (first | (with_reducible first | exact HB.out | apply bw1 | apply bw2 | apply bw3 | refine below_set ?_ GE362.out) | exact HB.out))) : w.heap.size ≤ gb367)); have n5_ := Aside0.mk (n4_.out); have n6_ := Aside0.mk ((by rw [hg]; exact Nat.ne_of_lt (blk_lt (g := gb362) (o := .cells #[.int .i64 t360, .int .i64 t361] 25 (0, 0)) (by (with_reducible repeat (first | apply bd1 | apply bd2 | apply bd3)); exact BK362.out)) : gb362 ≠ gb367)); have n7_ := Aside0.mk (Ne.symm n6_.out); clear HO_9 BK362 HB; have HO_9 := n0_; have BK362 := n1_; have HB := n2_; have BK367 := n3_; have GW367 := n4_; have GE367 := n5_; have NB362_367 := n6_; have NB367_362 := n7_; clear n0_ n1_ n2_ n3_ n4_ n5_ n6_ n7_; clear hb hbox hg; have hnb17 := NB367_362.out; have hnc17 := NB362_367.out; have hcz18_0 : w16.cell? ⟨gb367, 0, none⟩ = some (.string (⟨#[]⟩ : ByteArray)) := (blk_cell BK367.out 0).trans rfl; have hcz18_1 : w16.cell? ⟨gb367, 1, none⟩ = some (.string (⟨#[]⟩ : ByteArray)) := (blk_cell BK367.out 1).trans rfl; have hcz18_2 : w16.cell? ⟨gb367, 2, none⟩ = some (.int .i64 0) := (blk_cell BK367.out 2).trans rfl; have hfz18_0 := blk_frozen BK367.out 0; have hfz18_1 := blk_frozen BK367.out 1; have hfz18_2 := blk_frozen BK367.out 2) | (go_at_call 19; (with_reducible refine (lex_Quote.calls k1 ((rd_T35 l1 x27_1).f0) t368 t369 _ A14.out).mono ?_); rintro e w19 ⟨rfl, hb⟩; have n0_ := Aside0.mk (Kd.R_below (by (with_reducible repeat (first | apply Kd.R_alloc | apply Kd.R_drewN | apply Kd.R_drew)); exact (Kd.R_mono (Kd.R_far (p := ⟨gb367, 2, none⟩) (Kd.R_far (p := ⟨gb367, 1, none⟩) (Kd.R_far (p := ⟨gb367, 0, none⟩) (Kd.R_types HO_9.out BK367.out (by decide)) (fun _ hk => hk.2) (.string ((rd_T35 l1 x27_1).f0))) (fun _ hk => hk.2) (.string ((rd_T35 l1 x27_1).f1))) (fun _ hk => hk.2) (.int .i64 ((rd_T35 l1 x27_1).f2))) (fun _ h_ => h_.1))) hb); have n1_ := Aside0.mk (blk_below (g := gb362) (o := .cells #[.int .i64 t360, .int .i64 t361] 25 (0, 0)) (by (with_reducible repeat (first | apply bd1 | apply bd2 | apply bd3)); refine blk_far ?_ NB362_367.out _; (with_reducible repeat (first | apply bd1 | apply bd2 | apply bd3)); refine blk_far ?_ NB362_367.out _; (with_reducible repeat (first | apply bd1 | apply bd2 | apply bd3)); refine blk_far ?_ NB362_367.out _; (with_reducible repeat (first | apply bd1 | apply bd2 | apply bd3)); exact BK362.out) hb); have n2_ := Aside0.mk (blk_below (g := gb367) (o := .cells #[.string ((rd_T35 l1 x27_1).f0), .string ((rd_T35 l1 x27_1).f1), .int .i64 ((rd_T35 l1 x27_1).f2)] 35 (0, 0)) (by (with_reducible repeat (first | apply bd1 | apply bd2 | apply bd3)); refine blk_put (cs := #[.string ((rd_T35 l1 x27_1).f0), .string ((rd_T35 l1 x27_1).f1), .int .i64 0]) ?_ 2 _ rfl; (with_reducible repeat (first | apply bd1 | apply bd2 | apply bd3)); refine blk_put (cs := #[.string ((rd_T35 l1 x27_1).f0), .string (⟨#[]⟩ : ByteArray), .int .i64 0]) ?_ 1 _ rfl; (with_reducible repeat (first | apply bd1 | apply bd2 | apply bd3)); refine blk_put (cs := #[.string (⟨#[]⟩ : ByteArray), .string (⟨#[]⟩ : ByteArray), .int .i64 0]) ?_ 0 _ rfl; (with_reducible repeat (first | apply bd1 | apply bd2 | apply bd3)); exact BK367.out) hb); have n3_ := Aside0.mk (below_step (by repeat (first | (with_reducible first | exact HB.out | apply bw1 | apply bw2 | apply bw3 | refine below_set ?_ GE362.out | refine below_set ?_ GE367.out) | exact HB.out)) hb); clear HO_9 BK362 BK367 HB; have HO_9 := n0_; have BK362 := n1_; have BK367 := n2_; have HB := n3_; clear n0_ n1_ n2_ n3_; (try clear hb); (try clear hb2); (try clear hk); (try clear hi))); go_upto_region 9 with (first | ((with_reducible refine gate_dst (N := 11) rfl ?_); refine box_event ?hg (N := 11) ?hd (cs := #[.string (⟨#[]⟩ : ByteArray), .string (⟨#[]⟩ : ByteArray), .int .i64 0]) (t := 35) ?hr ?_; (case hd => rfl); (case hg => rfl); (case hr => first | (go_simp; done) | (go_simp; rfl)); intro gb367 hg w16 hbox hb; have n0_ := Aside0.mk (Kd.R_below (by (with_reducible repeat (first | apply Kd.R_alloc | apply Kd.R_drewN | apply Kd.R_drew)); exact HO_9.out) hb); have n1_ := Aside0.mk (blk_below (g := gb362) (o := .cells #[.int .i64 t360, .int .i64 t361] 25 (0, 0)) (by (with_reducible repeat (first | apply bd1 | apply bd2 | apply bd3)); exact BK362.out) hb); have n2_ := Aside0.mk (below_step (by repeat (first | (with_reducible first | exact HB.out | apply bw1 | apply bw2 | apply bw3 | refine below_set ?_ GE362.out) | exact HB.out)) hb); have n3_ := Aside0.mk (hbox); have n4_ := Aside0.mk ((by rw [hg]; exact (below_size (by repeat (first | (with_reducible first | exact HB.out | apply bw1 | apply bw2 | apply bw3 | refine below_set ?_ GE362.out) | exact HB.out))) : w.heap.size ≤ gb367)); have n5_ := Aside0.mk (n4_.out); have n6_ := Aside0.mk ((by rw [hg]; exact Nat.ne_of_lt (blk_lt (g := gb362) (o := .cells #[.int .i64 t360, .int .i64 t361] 25 (0, 0)) (by (with_reducible repeat (first | apply bd1 | apply bd2 | apply bd3)); exact BK362.out)) : gb362 ≠ gb367)); have n7_ := Aside0.mk (Ne.symm n6_.out); clear HO_9 BK362 HB; have HO_9 := n0_; have BK362 := n1_; have HB := n2_; have BK367 := n3_; have GW367 := n4_; have GE367 := n5_; have NB362_367 := n6_; have NB367_362 := n7_; clear n0_ n1_ n2_ n3_ n4_ n5_ n6_ n7_; clear hb hbox hg; have hnb17 := NB367_362.out; have hnc17 := NB362_367.out; have hcz18_0 : w16.cell? ⟨gb367, 0, none⟩ = some (.string (⟨#[]⟩ : ByteArray)) := (blk_cell BK367.out 0).trans rfl; have hcz18_1 : w16.cell? ⟨gb367, 1, none⟩ = some (.string (⟨#[]⟩ : ByteArray)) := (blk_cell BK367.out 1).trans rfl; have hcz18_2 : w16.cell? ⟨gb367, 2, none⟩ = some (.int .i64 0) := (blk_cell BK367.out 2).trans rfl; have hfz18_0 := blk_frozen BK367.out 0; have hfz18_1 := blk_frozen BK367.out 1; have hfz18_2 := blk_frozen BK367.out 2) | (go_at_call 19; (with_reducible refine (lex_Quote.calls k1 ((rd_T35 l1 x27_1).f0) t368 t369 _ A14.out).mono ?_); rintro e w19 ⟨rfl, hb⟩; have n0_ := Aside0.mk (Kd.R_below (by (with_reducible repeat (first | apply Kd.R_alloc | apply Kd.R_drewN | apply Kd.R_drew)); exact (Kd.R_mono (Kd.R_far (p := ⟨gb367, 2, none⟩) (Kd.R_far (p := ⟨gb367, 1, none⟩) (Kd.R_far (p := ⟨gb367, 0, none⟩) (Kd.R_types HO_9.out BK367.out (by decide)) (fun _ hk => hk.2) (.string ((rd_T35 l1 x27_1).f0))) (fun _ hk => hk.2) (.string ((rd_T35 l1 x27_1).f1))) (fun _ hk => hk.2) (.int .i64 ((rd_T35 l1 x27_1).f2))) (fun _ h_ => h_.1))) hb); have n1_ := Aside0.mk (blk_below (g := gb362) (o := .cells #[.int .i64 t360, .int .i64 t361] 25 (0, 0)) (by (with_reducible repeat (first | apply bd1 | apply bd2 | apply bd3)); refine blk_far ?_ NB362_367.out _; (with_reducible repeat (first | apply bd1 | apply bd2 | apply bd3)); refine blk_far ?_ NB362_367.out _; (with_reducible repeat (first | apply bd1 | apply bd2 | apply bd3)); refine blk_far ?_ NB362_367.out _; (with_reducible repeat (first | apply bd1 | apply bd2 | apply bd3)); exact BK362.out) hb); have n2_ := Aside0.mk (blk_below (g := gb367) (o := .cells #[.string ((rd_T35 l1 x27_1).f0), .string ((rd_T35 l1 x27_1).f1), .int .i64 ((rd_T35 l1 x27_1).f2)] 35 (0, 0)) (by (with_reducible repeat (first | apply bd1 | apply bd2 | apply bd3)); refine blk_put (cs := #[.string ((rd_T35 l1 x27_1).f0), .string ((rd_T35 l1 x27_1).f1), .int .i64 0]) ?_ 2 _ rfl; (with_reducible repeat (first | apply bd1 | apply bd2 | apply bd3)); refine blk_put (cs := #[.string ((rd_T35 l1 x27_1).f0), .string (⟨#[]⟩ : ByteArray), .int .i64 0]) ?_ 1 _ rfl; (with_reducible repeat (first | apply bd1 | apply bd2 | apply bd3)); refine blk_put (cs := #[.string (⟨#[]⟩ : ByteArray), .string (⟨#[]⟩ : ByteArray), .int .i64 0]) ?_ 0 _ rfl; (with_reducible repeat (first | apply bd1 | apply bd2 | apply bd3)); exact BK367.out) hb); have n3_ := Aside0.mk (below_step (by repeat (first | (with_reducible first | exact HB.out | apply bw1 | apply bw2 | apply bw3 | refine below_set ?_ GE362.out | refine below_set ?_ GE367.out) | exact HB.out)) hb); clear HO_9 BK362 BK367 HB; have HO_9 := n0_; have BK362 := n1_; have BK367 := n2_; have HB := n3_; clear n0_ n1_ n2_ n3_; (try clear hb); (try clear hb2); (try clear hk); (try clear hi))))
       (try simp only [Act.put, List.setIfInBounds_toArray, List.set_cons_zero, List.set_cons_succ])
       go_cut [44] (fun v44 wc => ∃ (kq : Nat) (x44_14 : Bool), v44 = .bool x44_14 ∧ Aside0 (scan_With.j1 kq a0 t359 x9_1 t368 l1 (l1.length : Int) x27_1 x44_14 ((rd_T35 l1 x27_1).f0) ((rd_T35 l1 x27_1).f1) ((rd_T35 l1 x27_1).f2) = some (r1, r2)) ∧ Aside0 (kq ≤ k1) ∧ Aside0 (Kd.R (Kd.int .u8) 5 wc w.heap.size (fun _ => True) u9 x9_1) ∧ Aside0 (wc.heap[gb362]? = some (.cells #[.int .i64 t360, .int .i64 t361] 25 (0, 0))) ∧ Aside0 (wc.heap[gb367]? = some (.cells #[.string ((rd_T35 l1 x27_1).f0), .string ((rd_T35 l1 x27_1).f1), .int .i64 ((rd_T35 l1 x27_1).f2)] 35 (0, 0))) ∧ Aside0 (Below w.heap.size w wc))
       case first =>
        have H := HC15.out
        clear HC15
        by_cases c20 : t369 = 0
        ·rw [if_pos c20] at H
         have c20b0 : (t369 == 0) = true := beq_iff_eq.mpr c20
         have c20b1 : (t369 != 0) = false := bne_eq_false_iff_eq.mpr c20
         clear c20
         (first | rw [c20b0] | (simp only [i64_w, i32_w]; rw [c20b0]) | skip)
         replace H := Option.bind_eq_some_iff.mp H
         obtain ⟨t370, A210, H⟩ := H
         replace H : (scan_With.j1 k1 a0 t359 x9_1 t368 l1 (l1.length : Int) x27_1 (!t370) ((rd_T35 l1 x27_1).f0) ((rd_T35 l1 x27_1).f1) ((rd_T35 l1 x27_1).f2)) = some (r1, r2) := H
         have A21 := Aside0.mk A210
         clear A210
         have H' := Aside0.mk H
         clear H
         have hnb22 := NB367_362.out
         have hnc22 := NB362_367.out
         have hcz23_0 : w19.cell? ⟨gb367, 0, none⟩ = some (.string ((rd_T35 l1 x27_1).f0)) := (blk_cell BK367.out 0).trans rfl
         have hcz23_1 : w19.cell? ⟨gb367, 1, none⟩ = some (.string ((rd_T35 l1 x27_1).f1)) := (blk_cell BK367.out 1).trans rfl
         have hcz23_2 : w19.cell? ⟨gb367, 2, none⟩ = some (.int .i64 ((rd_T35 l1 x27_1).f2)) := (blk_cell BK367.out 2).trans rfl
         have hfz23_0 := blk_frozen BK367.out 0
         have hfz23_1 := blk_frozen BK367.out 1
         have hfz23_2 := blk_frozen BK367.out 2
         go_wp2_with (first | (go_at_call 20; (with_reducible refine (lex_Word.calls k1 ((rd_T35 l1 x27_1).f1) t370 _ A21.out (by first | exact HI.out | exact Inv.below HI.out (by repeat (first | (with_reducible first | exact HB.out | apply bw1 | apply bw2 | apply bw3 | refine below_set ?_ GE362.out | refine below_set ?_ GE367.out) | exact HB.out)) | exact Inv.drawn HI.out (by repeat (first | exact Drawn0.refl _ | apply Drawn0.step)))).mono ?_); rintro e w24 ⟨rfl, hb⟩; have n0_ := Aside0.mk (Kd.R_below (by (with_reducible repeat (first | apply Kd.R_alloc | apply Kd.R_drewN | apply Kd.R_drew)); exact HO_9.out) hb); have n1_ := Aside0.mk (blk_below (g := gb362) (o := .cells #[.int .i64 t360, .int .i64 t361] 25 (0, 0)) (by (with_reducible repeat (first | apply bd1 | apply bd2 | apply bd3)); exact BK362.out) hb); have n2_ := Aside0.mk (blk_below (g := gb367) (o := .cells #[.string ((rd_T35 l1 x27_1).f0), .string ((rd_T35 l1 x27_1).f1), .int .i64 ((rd_T35 l1 x27_1).f2)] 35 (0, 0)) (by (with_reducible repeat (first | apply bd1 | apply bd2 | apply bd3)); exact BK367.out) hb); have n3_ := Aside0.mk (below_step (by repeat (first | (with_reducible first | exact HB.out | apply bw1 | apply bw2 | apply bw3 | refine below_set ?_ GE362.out | refine below_set ?_ GE367.out) | exact HB.out)) hb); clear HO_9 BK362 BK367 HB; have HO_9 := n0_; have BK362 := n1_; have BK367 := n2_; have HB := n3_; clear n0_ n1_ n2_ n3_; (try clear hb); (try clear hb2); (try clear hk); (try clear hi)))
         go_meet
         case rel => exact ⟨_, (!t370), (by first | rfl | (simp; done) | (simp [*]; done)), H', ⟨by have := HK1.out; first | omega | exact Nat.le_refl _⟩, ⟨by (with_reducible repeat (first | apply Kd.R_alloc | apply Kd.R_drewN | apply Kd.R_drew)); exact HO_9.out⟩, ⟨by (with_reducible repeat (first | apply bd1 | apply bd2 | apply bd3)); exact BK362.out⟩, ⟨by (with_reducible repeat (first | apply bd1 | apply bd2 | apply bd3)); exact BK367.out⟩, ⟨by repeat (first | (with_reducible first | exact HB.out | apply bw1 | apply bw2 | apply bw3 | refine below_set ?_ GE362.out | refine below_set ?_ GE367.out) | exact HB.out)⟩⟩
        ·rw [if_neg c20] at H
         have c20b0 : (t369 == 0) = false := beq_eq_false_iff_ne.mpr c20
         have c20b1 : (t369 != 0) = true := bne_iff_ne.mpr c20
         (first | rw [c20b0] | (simp only [i64_w, i32_w]; rw [c20b0]) | skip)
         have H' := Aside0.mk H
         clear H
         go_wp2
         repeat (go_quiet (fail); try go_wp2)
         go_meet
         case rel => exact ⟨_, (true), (by first | rfl | (simp; done) | (simp [*]; done)), H', ⟨by have := HK1.out; first | omega | exact Nat.le_refl _⟩, ⟨by (with_reducible repeat (first | apply Kd.R_alloc | apply Kd.R_drewN | apply Kd.R_drew)); exact HO_9.out⟩, ⟨by (with_reducible repeat (first | apply bd1 | apply bd2 | apply bd3)); exact BK362.out⟩, ⟨by (with_reducible repeat (first | apply bd1 | apply bd2 | apply bd3)); exact BK367.out⟩, ⟨by repeat (first | (with_reducible first | exact HB.out | apply bw1 | apply bw2 | apply bw3 | refine below_set ?_ GE362.out | refine below_set ?_ GE367.out) | exact HB.out)⟩⟩
       case rest =>
        clear HC15
        try clear c1
        try clear c2
        try clear p2
        try clear p3
        try clear q3
        try clear hx3
        try clear c4
        try clear c4b0
        try clear c11
        try clear c11b0
        try clear c12
        try clear c12b0
        try clear c13
        try clear c13b0
        try clear c17
        try clear c20
        try clear c20b0
        try clear c20b1
        try clear c22
        try clear hcz10_0
        try clear hcz10_1
        try clear hcz18_0
        try clear hcz18_1
        try clear hcz18_2
        try clear hcz23_0
        try clear hcz23_1
        try clear hcz23_2
        try clear hcz7_0
        try clear hcz7_1
        try clear hfz10_0
        try clear hfz10_1
        try clear hfz18_0
        try clear hfz18_1
        try clear hfz18_2
        try clear hfz23_0
        try clear hfz23_1
        try clear hfz23_2
        try clear hfz7_0
        try clear hfz7_1
        try clear hx366_0
        try clear hx366_1
        try clear hx366_2
        try clear p2
        try clear p366
        try clear q366
        obtain ⟨kq, x44_14, rfl, HA, HJ14, HO_9, BK362, BK367, HB⟩ := hcut
        cases kq with
        | zero => exact absurd HA.out (by simp [scan_With.j1])
        | succ kj14 =>
         have H := HA.out
         clear HA
         simp only [scan_With.j1] at H
         by_cases c25 : x44_14 = true
         ·subst c25
          have H1 : (some ((⟨#[]⟩ : ByteArray), 1)) = some (r1, r2) := by rw [if_pos rfl] at H; exact H
          clear H
          have H := H1
          clear H1
          simp only [Option.some.injEq, Prod.mk.injEq] at H
          obtain ⟨rfl, rfl⟩ := H
          go_wp2
          repeat (go_quiet (fail); try go_wp2)
          go_ret2
          exact ⟨by first | rfl | (simp [errW_none, errW_some] <;> rfl) | (simp [*, errW_none, errW_some] <;> rfl), by repeat (first | (with_reducible first | exact HB.out | apply bw1 | apply bw2 | apply bw3 | refine below_set ?_ GE362.out | refine below_set ?_ GE367.out) | exact HB.out)⟩
         ·replace c25 := Bool.eq_false_iff.mpr c25
          subst c25
          have H1 : (if (x9_1.length : Int) ≤ 65536 then (if 8 + t368.size ≤ 9223372036854775807 then (if ((⟨#[105, 110, 99, 108, 117, 100, 101, 32]⟩ : ByteArray) ++ t368).size + 4 ≤ 9223372036854775807 then (if (((⟨#[105, 110, 99, 108, 117, 100, 101, 32]⟩ : ByteArray) ++ t368) ++ (⟨#[32, 97, 115, 32]⟩ : ByteArray)).size + ((rd_T35 l1 x27_1).f1).size ≤ 9223372036854775807 then (if ((((⟨#[105, 110, 99, 108, 117, 100, 101, 32]⟩ : ByteArray) ++ t368) ++ (⟨#[32, 97, 115, 32]⟩ : ByteArray)) ++ ((rd_T35 l1 x27_1).f1)).size + 2 ≤ 9223372036854775807 then (if x9_1.length + (((((⟨#[105, 110, 99, 108, 117, 100, 101, 32]⟩ : ByteArray) ++ t368) ++ (⟨#[32, 97, 115, 32]⟩ : ByteArray)) ++ ((rd_T35 l1 x27_1).f1)) ++ (⟨#[59, 10]⟩ : ByteArray)).size < 140737488355328 then (scan_With.l0 kj14 a0 t359 (x9_1 ++ bytesOf (((((⟨#[105, 110, 99, 108, 117, 100, 101, 32]⟩ : ByteArray) ++ t368) ++ (⟨#[32, 97, 115, 32]⟩ : ByteArray)) ++ ((rd_T35 l1 x27_1).f1)) ++ (⟨#[59, 10]⟩ : ByteArray))) l1 (l1.length : Int) (wrap64 (x27_1 + 1))) else (none)) else (none)) else (none)) else (none)) else (none)) else (scan_With.l0 kj14 a0 t359 x9_1 l1 (l1.length : Int) (wrap64 (x27_1 + 1)))) = some (r1, r2) := by rw [if_neg (show ¬ (false = true) by decide)] at H; exact H
          clear H
          have H := H1
          clear H1
          by_cases c26 : (x9_1.length : Int) ≤ 65536
          ·rw [if_pos c26] at H
           have c26b0 : decide ((x9_1.length : Int) ≤ 65536) = true := decide_eq_true c26
           have c26b1 : decide (x9_1.length ≤ 65536) = true := decide_eq_true (by omega)
           clear c26
           by_cases c27 : 8 + t368.size ≤ 9223372036854775807
           ·rw [if_pos c27] at H
            have c27b0 := eq_true c27
            have c27b1 : decide (8 + t368.size ≤ 9223372036854775807) = true := decide_eq_true c27
            try have c27b2 : (9223372036854775807 < 8 + t368.size) = False := eq_false (Nat.not_lt.2 c27)
            by_cases c28 : ((⟨#[105, 110, 99, 108, 117, 100, 101, 32]⟩ : ByteArray) ++ t368).size + 4 ≤ 9223372036854775807
            ·rw [if_pos c28] at H
             have c28b0 := eq_true c28
             have c28b1 : decide (((⟨#[105, 110, 99, 108, 117, 100, 101, 32]⟩ : ByteArray) ++ t368).size + 4 ≤ 9223372036854775807) = true := decide_eq_true c28
             try have c28b2 : (9223372036854775807 < ((⟨#[105, 110, 99, 108, 117, 100, 101, 32]⟩ : ByteArray) ++ t368).size + 4) = False := eq_false (Nat.not_lt.2 c28)
             try have c28b2z : (9223372036854775807 < 8 + t368.size + 4) = False := eq_false (by have h_ := c28; simp only [ByteArray.size_append] at h_; exact Nat.not_lt.2 h_)
             by_cases c29 : (((⟨#[105, 110, 99, 108, 117, 100, 101, 32]⟩ : ByteArray) ++ t368) ++ (⟨#[32, 97, 115, 32]⟩ : ByteArray)).size + ((rd_T35 l1 x27_1).f1).size ≤ 9223372036854775807
             ·rw [if_pos c29] at H
              have c29b0 := eq_true c29
              have c29b1 : decide ((((⟨#[105, 110, 99, 108, 117, 100, 101, 32]⟩ : ByteArray) ++ t368) ++ (⟨#[32, 97, 115, 32]⟩ : ByteArray)).size + ((rd_T35 l1 x27_1).f1).size ≤ 9223372036854775807) = true := decide_eq_true c29
              try have c29b2 : (9223372036854775807 < (((⟨#[105, 110, 99, 108, 117, 100, 101, 32]⟩ : ByteArray) ++ t368) ++ (⟨#[32, 97, 115, 32]⟩ : ByteArray)).size + ((rd_T35 l1 x27_1).f1).size) = False := eq_false (Nat.not_lt.2 c29)
              try have c29b2z : (9223372036854775807 < 8 + t368.size + 4 + ((rd_T35 l1 x27_1).f1).size) = False := eq_false (by have h_ := c29; simp only [ByteArray.size_append] at h_; exact Nat.not_lt.2 h_)
              by_cases c30 : ((((⟨#[105, 110, 99, 108, 117, 100, 101, 32]⟩ : ByteArray) ++ t368) ++ (⟨#[32, 97, 115, 32]⟩ : ByteArray)) ++ ((rd_T35 l1 x27_1).f1)).size + 2 ≤ 9223372036854775807
              ·rw [if_pos c30] at H
               have c30b0 := eq_true c30
               have c30b1 : decide (((((⟨#[105, 110, 99, 108, 117, 100, 101, 32]⟩ : ByteArray) ++ t368) ++ (⟨#[32, 97, 115, 32]⟩ : ByteArray)) ++ ((rd_T35 l1 x27_1).f1)).size + 2 ≤ 9223372036854775807) = true := decide_eq_true c30
               try have c30b2 : (9223372036854775807 < ((((⟨#[105, 110, 99, 108, 117, 100, 101, 32]⟩ : ByteArray) ++ t368) ++ (⟨#[32, 97, 115, 32]⟩ : ByteArray)) ++ ((rd_T35 l1 x27_1).f1)).size + 2) = False := eq_false (Nat.not_lt.2 c30)
               try have c30b2z : (9223372036854775807 < 8 + t368.size + 4 + ((rd_T35 l1 x27_1).f1).size + 2) = False := eq_false (by have h_ := c30; simp only [ByteArray.size_append] at h_; exact Nat.not_lt.2 h_)
               by_cases c31 : x9_1.length + (((((⟨#[105, 110, 99, 108, 117, 100, 101, 32]⟩ : ByteArray) ++ t368) ++ (⟨#[32, 97, 115, 32]⟩ : ByteArray)) ++ ((rd_T35 l1 x27_1).f1)) ++ (⟨#[59, 10]⟩ : ByteArray)).size < 140737488355328
               ·rw [if_pos c31] at H
                have LMc31 := Aside0.mk c31
                clear c31
                obtain ⟨y371, hy371⟩ : ∃ y_ : List Int, y_ = (x9_1 ++ bytesOf (((((⟨#[105, 110, 99, 108, 117, 100, 101, 32]⟩ : ByteArray) ++ t368) ++ (⟨#[32, 97, 115, 32]⟩ : ByteArray)) ++ ((rd_T35 l1 x27_1).f1)) ++ (⟨#[59, 10]⟩ : ByteArray))) := ⟨_, rfl⟩
                replace H : (scan_With.l0 kj14 a0 t359 y371 l1 (l1.length : Int) (wrap64 (x27_1 + 1))) = some (r1, r2) := by first | (rw [hy371]; with_reducible exact H) | (have H2_ := (Option.bind_some _ _).symm.trans H; rw [hy371]; with_reducible exact H2_) | (have H2_ := (Option.bind_some _ _).symm.trans H; with_reducible exact H2_) | with_reducible exact H | (rw [hy371]; exact H) | exact H
                have Ny371 := Aside0.mk hy371
                clear hy371
                have H' := Aside0.mk H
                clear H
                obtain ⟨Ao32, co32, eo32⟩ := Kd.R_slice HO_9.out
                subst eo32
                have hnb33 := NB367_362.out
                have hnc33 := NB362_367.out
                have hcz34_0 : wc.cell? ⟨gb367, 0, none⟩ = some (.string ((rd_T35 l1 x27_1).f0)) := (blk_cell BK367.out 0).trans rfl
                have hcz34_1 : wc.cell? ⟨gb367, 1, none⟩ = some (.string ((rd_T35 l1 x27_1).f1)) := (blk_cell BK367.out 1).trans rfl
                have hcz34_2 : wc.cell? ⟨gb367, 2, none⟩ = some (.int .i64 ((rd_T35 l1 x27_1).f2)) := (blk_cell BK367.out 2).trans rfl
                have hfz34_0 := blk_frozen BK367.out 0
                have hfz34_1 := blk_frozen BK367.out 1
                have hfz34_2 := blk_frozen BK367.out 2
                go_wp2_with (first | (at_builtin; refine print_append_str (w0 := w) w.heap.size rfl (.tmp 48) _ 50 9 5 rfl Tryd.underlying50 Tryd.underlying9 info5 (.slice Ao32 x9_1.length co32) x9_1 (((((⟨#[105, 110, 99, 108, 117, 100, 101, 32]⟩ : ByteArray) ++ t368) ++ (⟨#[32, 97, 115, 32]⟩ : ByteArray)) ++ ((rd_T35 l1 x27_1).f1)) ++ (⟨#[59, 10]⟩ : ByteArray)) rfl rfl ?aO ?aB ?aS ?aL ?_; (case aB => exact (by repeat (first | (with_reducible first | exact HB.out | apply bw1 | apply bw2 | apply bw3 | refine below_set ?_ GE362.out | refine below_set ?_ GE367.out) | exact HB.out))); (case aO => exact (Kd.own_of_R (by (with_reducible repeat (first | apply Kd.R_alloc | apply Kd.R_drewN | apply Kd.R_drew)); exact HO_9.out))); (case aS => exact (below_size (by repeat (first | (with_reducible first | exact HB.out | apply bw1 | apply bw2 | apply bw3 | refine below_set ?_ GE362.out | refine below_set ?_ GE367.out) | exact HB.out)))); (case aL => have := LMc31.out; omega); intro v372 w35 ho0 hb hg; have ho := Kd.R_of_own (h1 := fun _ => rfl) (ok := fun _ => True) ho0 (fun _ _ => trivial); clear ho0; have hat := True.intro; rw [← Ny371.out] at ho; change Kd.R (Kd.int .u8) 5 w35 w.heap.size (fun _ => True) v372 y371 at ho; have n0_ := Aside0.mk (blk_grown (g := gb362) (o := .cells #[.int .i64 t360, .int .i64 t361] 25 (0, 0)) (by (with_reducible repeat (first | apply bd1 | apply bd2 | apply bd3)); exact BK362.out) hg (by first | exact Kd.R_ne HO_9.out BK362.out (by decide) | exact Kd.R_away HO_9.out (fun k_ hk_ => by first | exact hk_.2 | exact hk_.1.2 | exact hk_.1.1.2 | exact hk_.1.1.1.2))); have n1_ := Aside0.mk (blk_grown (g := gb367) (o := .cells #[.string ((rd_T35 l1 x27_1).f0), .string ((rd_T35 l1 x27_1).f1), .int .i64 ((rd_T35 l1 x27_1).f2)] 35 (0, 0)) (by (with_reducible repeat (first | apply bd1 | apply bd2 | apply bd3)); exact BK367.out) hg (by first | exact Kd.R_ne HO_9.out BK367.out (by decide) | exact Kd.R_away HO_9.out (fun k_ hk_ => by first | exact hk_.2 | exact hk_.1.2 | exact hk_.1.1.2 | exact hk_.1.1.1.2))); have n2_ := Aside0.mk (hb); have n3_ := Aside0.mk (ho); clear BK362 BK367 HB HO_9; have BK362 := n0_; have BK367 := n1_; have HB := n2_; have HO373 := n3_; clear n0_ n1_ n2_ n3_; clear ho hb hg hat))
                go_roundg kj14
                case measure => have := HK1.out; have := HJ14.out; omega
                case rel => exact ⟨(y371), (wrap64 (x27_1 + 1)), (by first | rfl | (simp; done) | (simp [*]; done)), H', ⟨by have := HK1.out; have := HJ14.out; omega⟩, ⟨by (with_reducible repeat (first | apply Kd.R_alloc | apply Kd.R_drewN | apply Kd.R_drew)); exact HO373.out⟩, ⟨by (with_reducible repeat (first | apply bd1 | apply bd2 | apply bd3)); exact BK362.out⟩, ⟨by repeat (first | (with_reducible first | exact HB.out | apply bw1 | apply bw2 | apply bw3 | refine below_set ?_ GE362.out | refine below_set ?_ GE367.out) | exact HB.out)⟩⟩
               ·rw [if_neg c31] at H
                exact absurd H (by simp)
              ·rw [if_neg c30] at H
               exact absurd H (by simp)
             ·rw [if_neg c29] at H
              exact absurd H (by simp)
            ·rw [if_neg c28] at H
             exact absurd H (by simp)
           ·rw [if_neg c27] at H
            exact absurd H (by simp)
          ·rw [if_neg c26] at H
           have c26b0 : decide ((x9_1.length : Int) ≤ 65536) = false := decide_eq_false c26
           have c26b1 : decide (x9_1.length ≤ 65536) = false := decide_eq_false (by omega)
           clear c26
           have H' := Aside0.mk H
           clear H
           obtain ⟨Ao36, co36, eo36⟩ := Kd.R_slice HO_9.out
           subst eo36
           go_wp2
           repeat (go_quiet (fail); try go_wp2)
           go_roundg kj14
           case measure => have := HK1.out; have := HJ14.out; omega
           case rel => exact ⟨(x9_1), (wrap64 (x27_1 + 1)), (by first | rfl | (simp; done) | (simp [*]; done)), H', ⟨by have := HK1.out; have := HJ14.out; omega⟩, ⟨by (with_reducible repeat (first | apply Kd.R_alloc | apply Kd.R_drewN | apply Kd.R_drew)); exact HO_9.out⟩, ⟨by (with_reducible repeat (first | apply bd1 | apply bd2 | apply bd3)); exact BK362.out⟩, ⟨by repeat (first | (with_reducible first | exact HB.out | apply bw1 | apply bw2 | apply bw3 | refine below_set ?_ GE362.out | refine below_set ?_ GE367.out) | exact HB.out)⟩⟩
      ·rw [if_neg c13] at H
       exact absurd H (by simp)
     ·rw [if_neg c12] at H
      exact absurd H (by simp)
    ·rw [if_neg c11] at H
     have c11b0 : decide (x27_1 < (l1.length : Int)) = false := decide_eq_false c11
     clear c11
     by_cases c37 : 0 ≤ t359
     ·rw [if_pos c37] at H
      have c37b0 := eq_true c37
      have c37b1 : decide (0 ≤ t359) = true := decide_eq_true c37
      clear c37
      by_cases c38 : t359 ≤ (a0.size : Int)
      ·rw [if_pos c38] at H
       have c38b0 := eq_true c38
       have c38b1 : decide (t359 ≤ (a0.size : Int)) = true := decide_eq_true c38
       clear c38
       by_cases c39 : x9_1.length + (a0.extract (t359 : Int).toNat a0.size).size < 140737488355328
       ·rw [if_pos c39] at H
        have LMc39 := Aside0.mk c39
        clear c39
        obtain ⟨y363, hy363⟩ : ∃ y_ : List Int, y_ = (x9_1 ++ bytesOf (a0.extract (t359 : Int).toNat a0.size)) := ⟨_, rfl⟩
        replace H : (if (y363.length : Int) > 65536 then (some ((⟨#[]⟩ : ByteArray), 3)) else (some (strOfNums y363, 0))) = some (r1, r2) := by first | (rw [hy363]; with_reducible exact H) | (have H2_ := (Option.bind_some _ _).symm.trans H; rw [hy363]; with_reducible exact H2_) | (have H2_ := (Option.bind_some _ _).symm.trans H; with_reducible exact H2_) | with_reducible exact H | (rw [hy363]; exact H) | exact H
        have Ny363 := Aside0.mk hy363
        clear hy363
        by_cases c40 : (y363.length : Int) > 65536
        ·rw [if_pos c40] at H
         have c40b0 : decide (65536 < (y363.length : Int)) = true := decide_eq_true c40
         have c40b1 : decide (65536 < y363.length) = true := decide_eq_true (by omega)
         clear c40
         simp only [Option.some.injEq, Prod.mk.injEq] at H
         obtain ⟨rfl, rfl⟩ := H
         go_wp2_with (first | (at_builtin; refine print_append_str (w0 := w) w.heap.size rfl (.tmp 58) _ 50 9 5 rfl Tryd.underlying50 Tryd.underlying9 info5 u9 x9_1 (a0.extract (t359 : Int).toNat a0.size) rfl rfl ?aO ?aB ?aS ?aL ?_; (case aB => exact (by repeat (first | (with_reducible first | exact HB.out | apply bw1 | apply bw2 | apply bw3 | refine below_set ?_ GE362.out) | exact HB.out))); (case aO => exact (Kd.own_of_R (by (with_reducible repeat (first | apply Kd.R_alloc | apply Kd.R_drewN | apply Kd.R_drew)); exact HO_9.out))); (case aS => exact (below_size (by repeat (first | (with_reducible first | exact HB.out | apply bw1 | apply bw2 | apply bw3 | refine below_set ?_ GE362.out) | exact HB.out)))); (case aL => have := LMc39.out; omega); intro v364 w41 ho0 hb hg; have ho := Kd.R_of_own (h1 := fun _ => rfl) (ok := fun _ => True) ho0 (fun _ _ => trivial); clear ho0; have hat := True.intro; rw [← Ny363.out] at ho; change Kd.R (Kd.int .u8) 5 w41 w.heap.size (fun _ => True) v364 y363 at ho; have n0_ := Aside0.mk (blk_grown (g := gb362) (o := .cells #[.int .i64 t360, .int .i64 t361] 25 (0, 0)) (by (with_reducible repeat (first | apply bd1 | apply bd2 | apply bd3)); exact BK362.out) hg (by first | exact Kd.R_ne HO_9.out BK362.out (by decide) | exact Kd.R_away HO_9.out (fun k_ hk_ => by first | exact hk_.2 | exact hk_.1.2 | exact hk_.1.1.2 | exact hk_.1.1.1.2))); have n1_ := Aside0.mk (hb); have n2_ := Aside0.mk (ho); clear BK362 HB HO_9; have BK362 := n0_; have HB := n1_; have HO365 := n2_; clear n0_ n1_ n2_; clear ho hb hg hat; obtain ⟨Ao42, co42, eo42⟩ := Kd.R_slice HO365.out; subst eo42))
         go_ret2
         exact ⟨by first | rfl | (simp [errW_none, errW_some] <;> rfl) | (simp [*, errW_none, errW_some] <;> rfl), by repeat (first | (with_reducible first | exact HB.out | apply bw1 | apply bw2 | apply bw3 | refine below_set ?_ GE362.out) | exact HB.out)⟩
        ·rw [if_neg c40] at H
         have c40b0 : decide (65536 < (y363.length : Int)) = false := decide_eq_false c40
         have c40b1 : decide (65536 < y363.length) = false := decide_eq_false (by omega)
         clear c40
         simp only [Option.some.injEq, Prod.mk.injEq] at H
         obtain ⟨rfl, rfl⟩ := H
         go_wp2_with (first | (at_builtin; refine print_append_str (w0 := w) w.heap.size rfl (.tmp 58) _ 50 9 5 rfl Tryd.underlying50 Tryd.underlying9 info5 u9 x9_1 (a0.extract (t359 : Int).toNat a0.size) rfl rfl ?aO ?aB ?aS ?aL ?_; (case aB => exact (by repeat (first | (with_reducible first | exact HB.out | apply bw1 | apply bw2 | apply bw3 | refine below_set ?_ GE362.out) | exact HB.out))); (case aO => exact (Kd.own_of_R (by (with_reducible repeat (first | apply Kd.R_alloc | apply Kd.R_drewN | apply Kd.R_drew)); exact HO_9.out))); (case aS => exact (below_size (by repeat (first | (with_reducible first | exact HB.out | apply bw1 | apply bw2 | apply bw3 | refine below_set ?_ GE362.out) | exact HB.out)))); (case aL => have := LMc39.out; omega); intro v364 w43 ho0 hb hg; have ho := Kd.R_of_own (h1 := fun _ => rfl) (ok := fun _ => True) ho0 (fun _ _ => trivial); clear ho0; have hat := True.intro; rw [← Ny363.out] at ho; change Kd.R (Kd.int .u8) 5 w43 w.heap.size (fun _ => True) v364 y363 at ho; have n0_ := Aside0.mk (blk_grown (g := gb362) (o := .cells #[.int .i64 t360, .int .i64 t361] 25 (0, 0)) (by (with_reducible repeat (first | apply bd1 | apply bd2 | apply bd3)); exact BK362.out) hg (by first | exact Kd.R_ne HO_9.out BK362.out (by decide) | exact Kd.R_away HO_9.out (fun k_ hk_ => by first | exact hk_.2 | exact hk_.1.2 | exact hk_.1.1.2 | exact hk_.1.1.1.2))); have n1_ := Aside0.mk (hb); have n2_ := Aside0.mk (ho); clear BK362 HB HO_9; have BK362 := n0_; have HB := n1_; have HO365 := n2_; clear n0_ n1_ n2_; clear ho hb hg hat; obtain ⟨Ao44, co44, eo44⟩ := Kd.R_slice HO365.out; subst eo44; have hcv45 := own_string (P := Tryd.prog) Tryd.underlying50 Tryd.underlying5 Tryd.underlying9 (Kd.own_of_R HO365.out)))
         go_ret2
         exact ⟨by first | rfl | (simp [errW_none, errW_some] <;> rfl) | (simp [*, errW_none, errW_some] <;> rfl), by repeat (first | (with_reducible first | exact HB.out | apply bw1 | apply bw2 | apply bw3 | refine below_set ?_ GE362.out) | exact HB.out)⟩
       ·rw [if_neg c39] at H
        exact absurd H (by simp)
      ·rw [if_neg c38] at H
       exact absurd H (by simp)
     ·rw [if_neg c37] at H
      exact absurd H (by simp)
end Go.Proofs.YtifachjefpcgcaaDoor.P
