import Derived.Test.YtifachjefpcgcaaDoorBPD
import Derived.Test.YtifachjefpcgcaaDoorBP17
import Derived.Test.YtifachjefpcgcaaDoorBP18
import Derived.Test.YtifachjefpcgcaaDoorBP22
import Derived.Test.YtifachjefpcgcaaDoorBP25
import Derived.Test.YtifachjefpcgcaaDoorBP26
namespace Go.Proofs.YtifachjefpcgcaaDoor.P
open Go.RowKit Go.Proofs.YtifachjefpcgcaaDoorW.PrintWords Go.Proofs.YtifachjefpcgcaaDoorW.PrintLast Go.Proofs.YtifachjefpcgcaaDoorW.PrintMore
attribute [local go_sem] max2_int min2_int max_two min_two max_three min_three max_four min_four
set_option linter.unusedVariables false
set_option linter.unusedSimpArgs false
set_option maxHeartbeats 8000000 in
set_option maxRecDepth 100000 in
theorem treadleref13_With.calls (k : Nat) (a0 : ByteArray) (A1 : Option Addr) (c1 : Nat) (l1 : List (S35)) (r1 : ByteArray) (r2 : Int) (w : World) (hr1 : Kd.C k35 w A1 l1.length l1) (hc1 : l1.length ≤ c1) (h : treadleref13_With.f k a0 l1 = some (r1, r2)) :
  Calls Tryd.prog 14 #[.string a0, .slice A1 l1.length c1] w fun e w' => e = .returned (.tuple #[.string r1, .int .i64 r2]) ∧ Below w.heap.size w w' := by
 have HR1 := Aside0.mk hr1
 have HC1 := Aside0.mk hc1
 clear hr1 hc1
 have HB := Aside0.mk (Below.refl w.heap.size w)
 have H : ((treadleref13_Includes.f k a0).bind fun bt413 => (if bt413.2.2.1 = 0 then (treadleref13_With.l0 k a0 l1 bt413.2.1 (⟨#[]⟩ : ByteArray) 0) else (some ((⟨#[]⟩ : ByteArray), bt413.2.2.1)))) = some (r1, r2) := h
 clear h
 replace H := Option.bind_eq_some_iff.mp H
 obtain ⟨⟨t413, t414, t415, t416⟩, A30, H⟩ := H
 replace H : (if t415 = 0 then (treadleref13_With.l0 k a0 l1 t414 (⟨#[]⟩ : ByteArray) 0) else (some ((⟨#[]⟩ : ByteArray), t415))) = some (r1, r2) := H
 have A3 := Aside0.mk A30
 clear A30
 by_cases c4 : t415 = 0
 ·rw [if_pos c4] at H
  have c4b0 : (t415 == 0) = true := beq_iff_eq.mpr c4
  have c4b1 : (t415 != 0) = false := bne_eq_false_iff_eq.mpr c4
  clear c4
  have H' := Aside0.mk H
  clear H
  go_enter Tryd.func14, Tryd.ntmps14
  go_wp2_with (first | ((with_reducible refine gate_callee (f := 8) rfl ?_); refine goesL_ (some 16) rfl rfl Tryd.func8 (by kernel_rfl) rfl #[.string a0] rfl (am.trans (by rfl)) ?_; (with_reducible refine (treadleref13_Includes.calls k a0 t413 t414 t415 t416 _ A3.out).mono ?_); rintro e w5 ⟨v417, rfl, ho0, hb⟩; refine ⟨_, rfl, ?_⟩; have n0_ := Aside0.mk (Kd.R_lower ho0 (below_size (by repeat (first | (with_reducible first | exact HB.out | apply bw1 | apply bw2 | apply bw3) | exact HB.out)))); have n1_ := Aside0.mk (below_step (by repeat (first | (with_reducible first | exact HB.out | apply bw1 | apply bw2 | apply bw3) | exact HB.out)) hb); clear HB; have HO418 := n0_; have HB := n1_; clear n0_ n1_; (try clear hb); (try clear hb2); (try clear hk); (try clear hi); (try clear ho0)))
  go_loopg [10, 11] k (fun kq v10 v11 w' => ∃ (x10_1 : ByteArray) (x11_1 : Int), v10 = .string x10_1 ∧ v11 = .int .i64 x11_1 ∧ Aside0 (treadleref13_With.l0 kq a0 l1 t414 x10_1 x11_1 = some (r1, r2)) ∧ Aside0 (kq ≤ k) ∧ Aside0 (Below w.heap.size w w'))
  case atStart => exact ⟨((⟨#[]⟩ : ByteArray)), (0), (by first | rfl | (simp; done) | (simp [*]; done)), (by first | rfl | (simp; done) | (simp [*]; done)), H', ⟨Nat.le_refl _⟩, ⟨by repeat (first | (with_reducible first | exact HB.out | apply bw1 | apply bw2 | apply bw3) | exact HB.out)⟩⟩
  case round =>
   clear H'
   try clear c1
   try clear p2
   try clear c4
   try clear c4b0
   try clear c4b1
   obtain ⟨x10_1, x11_1, rfl, rfl, HA, HK1, HB⟩ := hrel
   cases gk with
   | zero => exact absurd HA.out (by simp [treadleref13_With.l0])
   | succ k1 =>
    have H := HA.out
    clear HA
    simp only [treadleref13_With.l0] at H
    by_cases c6 : x11_1 < (l1.length : Int)
    ·rw [if_pos c6] at H
     have c6b0 : decide (x11_1 < (l1.length : Int)) = true := decide_eq_true c6
     clear c6
     by_cases c7 : 0 ≤ x11_1
     ·rw [if_pos c7] at H
      have c7b0 : decide (0 ≤ x11_1) = true := decide_eq_true c7
      clear c7
      replace H := Option.bind_eq_some_iff.mp H
      obtain ⟨⟨t420, t421⟩, A80, H⟩ := H
      replace H : (if t421 = 0 then ((treadleref12_Word.f k1 ((rd_T35 l1 x11_1).f1)).bind fun t423 => (treadleref13_With.j1 k1 a0 l1 t414 x10_1 x11_1 t420 (!t423))) else (treadleref13_With.j1 k1 a0 l1 t414 x10_1 x11_1 t420 true)) = some (r1, r2) := H
      have A8 := Aside0.mk A80
      clear A80
      have HC9 := Aside0.mk H
      clear H
      have p419 : 0 ≤ (x11_1 : Int) := of_decide_eq_true (by first | (with_reducible assumption) | assumption)
      have q419 : x11_1 < (l1.length : Int) := of_decide_eq_true (by first | (with_reducible assumption) | assumption)
      obtain ⟨ad419, e419, hx419_0, hx419_1, hx419_2⟩ := at_T35 HR1.out x11_1 p419 q419
      cases e419
      replace hx419_0 := (HB.out.cell (World.block_lt_of_cell? w _ hx419_0)).trans hx419_0
      replace hx419_1 := (HB.out.cell (World.block_lt_of_cell? w _ hx419_1)).trans hx419_1
      replace hx419_2 := (HB.out.cell (World.block_lt_of_cell? w _ hx419_2)).trans hx419_2
      replace p419 := eq_true p419
      replace q419 := eq_true q419
      go_upto_region 9 with (first | ((with_reducible refine gate_callee (f := 21) rfl ?_); refine goesL_ (some 36) rfl rfl Tryd.func21 (by kernel_rfl) rfl #[.string ((rd_T35 l1 x11_1).f0)] rfl (am.trans (by rfl)) ?_; (with_reducible refine (treadleref12_Quote.calls k1 ((rd_T35 l1 x11_1).f0) t420 t421 _ A8.out).mono ?_); rintro e w10 ⟨rfl, hb⟩; refine ⟨_, rfl, ?_⟩; have n0_ := Aside0.mk (below_step (by repeat (first | (with_reducible first | exact HB.out | apply bw1 | apply bw2 | apply bw3) | exact HB.out)) hb); clear HB; have HB := n0_; clear n0_; (try clear hb); (try clear hb2); (try clear hk); (try clear hi)))
      (try simp only [Act.put, List.setIfInBounds_toArray, List.set_cons_zero, List.set_cons_succ])
      go_cut [49] (fun v49 wc => ∃ (kq : Nat) (x49_8 : Bool), v49 = .bool x49_8 ∧ Aside0 (treadleref13_With.j1 kq a0 l1 t414 x10_1 x11_1 t420 x49_8 = some (r1, r2)) ∧ Aside0 (kq ≤ k1) ∧ Aside0 (Below w.heap.size w wc))
      case first =>
       have H := HC9.out
       clear HC9
       by_cases c11 : t421 = 0
       ·rw [if_pos c11] at H
        have c11b0 : (t421 == 0) = true := beq_iff_eq.mpr c11
        have c11b1 : (t421 != 0) = false := bne_eq_false_iff_eq.mpr c11
        clear c11
        (first | rw [c11b0] | (simp only [i64_w, i32_w]; rw [c11b0]) | skip)
        replace H := Option.bind_eq_some_iff.mp H
        obtain ⟨t423, A120, H⟩ := H
        replace H : (treadleref13_With.j1 k1 a0 l1 t414 x10_1 x11_1 t420 (!t423)) = some (r1, r2) := H
        have A12 := Aside0.mk A120
        clear A120
        have H' := Aside0.mk H
        clear H
        have p422 : 0 ≤ (x11_1 : Int) := of_decide_eq_true (by first | (with_reducible assumption) | assumption)
        have q422 : x11_1 < (l1.length : Int) := of_decide_eq_true (by first | (with_reducible assumption) | assumption)
        obtain ⟨ad422, e422, hx422_0, hx422_1, hx422_2⟩ := at_T35 HR1.out x11_1 p422 q422
        obtain rfl : ad419 = ad422 := (by injection e422)
        replace hx422_0 := (HB.out.cell (World.block_lt_of_cell? w _ hx422_0)).trans hx422_0
        replace hx422_1 := (HB.out.cell (World.block_lt_of_cell? w _ hx422_1)).trans hx422_1
        replace hx422_2 := (HB.out.cell (World.block_lt_of_cell? w _ hx422_2)).trans hx422_2
        replace p422 := eq_true p422
        replace q422 := eq_true q422
        go_wp2_with (first | (go_at_call 22; (with_reducible refine (treadleref12_Word.calls k1 ((rd_T35 l1 x11_1).f1) t423 _ A12.out).mono ?_); rintro e w13 ⟨rfl, hb⟩; have n0_ := Aside0.mk (below_step (by repeat (first | (with_reducible first | exact HB.out | apply bw1 | apply bw2 | apply bw3) | exact HB.out)) hb); clear HB; have HB := n0_; clear n0_; (try clear hb); (try clear hb2); (try clear hk); (try clear hi)))
        go_meet
        case rel => exact ⟨_, (!t423), (by first | rfl | (simp; done) | (simp [*]; done)), H', ⟨by have := HK1.out; first | omega | exact Nat.le_refl _⟩, ⟨by repeat (first | (with_reducible first | exact HB.out | apply bw1 | apply bw2 | apply bw3) | exact HB.out)⟩⟩
       ·rw [if_neg c11] at H
        have c11b0 : (t421 == 0) = false := beq_eq_false_iff_ne.mpr c11
        have c11b1 : (t421 != 0) = true := bne_iff_ne.mpr c11
        (first | rw [c11b0] | (simp only [i64_w, i32_w]; rw [c11b0]) | skip)
        have H' := Aside0.mk H
        clear H
        go_wp2
        go_meet
        case rel => exact ⟨_, (true), (by first | rfl | (simp; done) | (simp [*]; done)), H', ⟨by have := HK1.out; first | omega | exact Nat.le_refl _⟩, ⟨by repeat (first | (with_reducible first | exact HB.out | apply bw1 | apply bw2 | apply bw3) | exact HB.out)⟩⟩
      case rest =>
       clear HC9
       try clear c1
       try clear c2
       try clear p2
       try clear c4
       try clear c4b0
       try clear c4b1
       try clear p4
       try clear q4
       try clear hx4
       try clear c6
       try clear c6b0
       try clear c7
       try clear c7b0
       try clear c8
       try clear c11
       try clear c11b0
       try clear c11b1
       try clear hx419_0
       try clear hx419_1
       try clear hx419_2
       try clear hx422_0
       try clear hx422_1
       try clear hx422_2
       try clear p2
       try clear p419
       try clear p422
       try clear q419
       try clear q422
       obtain ⟨kq, x49_8, rfl, HA, HJ8, HB⟩ := hcut
       cases kq with
       | zero => exact absurd HA.out (by simp [treadleref13_With.j1])
       | succ kj8 =>
        have H := HA.out
        clear HA
        simp only [treadleref13_With.j1] at H
        by_cases c14 : x49_8 = true
        ·subst c14
         have H1 : (some ((⟨#[]⟩ : ByteArray), 1)) = some (r1, r2) := by rw [if_pos rfl] at H; exact H
         clear H
         have H := H1
         clear H1
         simp only [Option.some.injEq, Prod.mk.injEq] at H
         obtain ⟨rfl, rfl⟩ := H
         go_wp2
         go_ret2
         exact ⟨by first | rfl | (simp [*, errW_none, errW_some] <;> rfl), by repeat (first | (with_reducible first | exact HB.out | apply bw1 | apply bw2 | apply bw3) | exact HB.out)⟩
        ·replace c14 := Bool.eq_false_iff.mpr c14
         subst c14
         have H1 : (if (x10_1.size : Int) ≤ 65536 then (if 8 + t420.size ≤ 9223372036854775807 then (if ((⟨#[105, 110, 99, 108, 117, 100, 101, 32]⟩ : ByteArray) ++ t420).size + 4 ≤ 9223372036854775807 then (if 0 ≤ x11_1 then (if x11_1 < (l1.length : Int) then (if (((⟨#[105, 110, 99, 108, 117, 100, 101, 32]⟩ : ByteArray) ++ t420) ++ (⟨#[32, 97, 115, 32]⟩ : ByteArray)).size + ((rd_T35 l1 x11_1).f1).size ≤ 9223372036854775807 then (if ((((⟨#[105, 110, 99, 108, 117, 100, 101, 32]⟩ : ByteArray) ++ t420) ++ (⟨#[32, 97, 115, 32]⟩ : ByteArray)) ++ ((rd_T35 l1 x11_1).f1)).size + 2 ≤ 9223372036854775807 then (if x10_1.size + (((((⟨#[105, 110, 99, 108, 117, 100, 101, 32]⟩ : ByteArray) ++ t420) ++ (⟨#[32, 97, 115, 32]⟩ : ByteArray)) ++ ((rd_T35 l1 x11_1).f1)) ++ (⟨#[59, 10]⟩ : ByteArray)).size ≤ 9223372036854775807 then (treadleref13_With.l0 kj8 a0 l1 t414 (x10_1 ++ (((((⟨#[105, 110, 99, 108, 117, 100, 101, 32]⟩ : ByteArray) ++ t420) ++ (⟨#[32, 97, 115, 32]⟩ : ByteArray)) ++ ((rd_T35 l1 x11_1).f1)) ++ (⟨#[59, 10]⟩ : ByteArray))) (wrap64 (x11_1 + 1))) else (none)) else (none)) else (none)) else (none)) else (none)) else (none)) else (none)) else (treadleref13_With.l0 kj8 a0 l1 t414 x10_1 (wrap64 (x11_1 + 1)))) = some (r1, r2) := by rw [if_neg (show ¬ (false = true) by decide)] at H; exact H
         clear H
         have H := H1
         clear H1
         by_cases c15 : (x10_1.size : Int) ≤ 65536
         ·rw [if_pos c15] at H
          have c15b0 : decide ((x10_1.size : Int) ≤ 65536) = true := decide_eq_true c15
          have c15b1 : decide (x10_1.size ≤ 65536) = true := decide_eq_true (by omega)
          clear c15
          by_cases c16 : 8 + t420.size ≤ 9223372036854775807
          ·rw [if_pos c16] at H
           have c16b0 := eq_true c16
           have c16b1 : decide (8 + t420.size ≤ 9223372036854775807) = true := decide_eq_true c16
           try have c16b2 : (9223372036854775807 < 8 + t420.size) = False := eq_false (Nat.not_lt.2 c16)
           by_cases c17 : ((⟨#[105, 110, 99, 108, 117, 100, 101, 32]⟩ : ByteArray) ++ t420).size + 4 ≤ 9223372036854775807
           ·rw [if_pos c17] at H
            have c17b0 := eq_true c17
            have c17b1 : decide (((⟨#[105, 110, 99, 108, 117, 100, 101, 32]⟩ : ByteArray) ++ t420).size + 4 ≤ 9223372036854775807) = true := decide_eq_true c17
            try have c17b2 : (9223372036854775807 < ((⟨#[105, 110, 99, 108, 117, 100, 101, 32]⟩ : ByteArray) ++ t420).size + 4) = False := eq_false (Nat.not_lt.2 c17)
            try have c17b2z : (9223372036854775807 < 8 + t420.size + 4) = False := eq_false (by have h_ := c17; simp only [ByteArray.size_append] at h_; exact Nat.not_lt.2 h_)
            by_cases c18 : 0 ≤ x11_1
            ·rw [if_pos c18] at H
             have c18b0 : decide (0 ≤ x11_1) = true := decide_eq_true c18
             clear c18
             by_cases c19 : x11_1 < (l1.length : Int)
             ·rw [if_pos c19] at H
              have c19b0 : decide (x11_1 < (l1.length : Int)) = true := decide_eq_true c19
              clear c19
              by_cases c20 : (((⟨#[105, 110, 99, 108, 117, 100, 101, 32]⟩ : ByteArray) ++ t420) ++ (⟨#[32, 97, 115, 32]⟩ : ByteArray)).size + ((rd_T35 l1 x11_1).f1).size ≤ 9223372036854775807
              ·rw [if_pos c20] at H
               have c20b0 := eq_true c20
               have c20b1 : decide ((((⟨#[105, 110, 99, 108, 117, 100, 101, 32]⟩ : ByteArray) ++ t420) ++ (⟨#[32, 97, 115, 32]⟩ : ByteArray)).size + ((rd_T35 l1 x11_1).f1).size ≤ 9223372036854775807) = true := decide_eq_true c20
               try have c20b2 : (9223372036854775807 < (((⟨#[105, 110, 99, 108, 117, 100, 101, 32]⟩ : ByteArray) ++ t420) ++ (⟨#[32, 97, 115, 32]⟩ : ByteArray)).size + ((rd_T35 l1 x11_1).f1).size) = False := eq_false (Nat.not_lt.2 c20)
               try have c20b2z : (9223372036854775807 < 8 + t420.size + 4 + ((rd_T35 l1 x11_1).f1).size) = False := eq_false (by have h_ := c20; simp only [ByteArray.size_append] at h_; exact Nat.not_lt.2 h_)
               by_cases c21 : ((((⟨#[105, 110, 99, 108, 117, 100, 101, 32]⟩ : ByteArray) ++ t420) ++ (⟨#[32, 97, 115, 32]⟩ : ByteArray)) ++ ((rd_T35 l1 x11_1).f1)).size + 2 ≤ 9223372036854775807
               ·rw [if_pos c21] at H
                have c21b0 := eq_true c21
                have c21b1 : decide (((((⟨#[105, 110, 99, 108, 117, 100, 101, 32]⟩ : ByteArray) ++ t420) ++ (⟨#[32, 97, 115, 32]⟩ : ByteArray)) ++ ((rd_T35 l1 x11_1).f1)).size + 2 ≤ 9223372036854775807) = true := decide_eq_true c21
                try have c21b2 : (9223372036854775807 < ((((⟨#[105, 110, 99, 108, 117, 100, 101, 32]⟩ : ByteArray) ++ t420) ++ (⟨#[32, 97, 115, 32]⟩ : ByteArray)) ++ ((rd_T35 l1 x11_1).f1)).size + 2) = False := eq_false (Nat.not_lt.2 c21)
                try have c21b2z : (9223372036854775807 < 8 + t420.size + 4 + ((rd_T35 l1 x11_1).f1).size + 2) = False := eq_false (by have h_ := c21; simp only [ByteArray.size_append] at h_; exact Nat.not_lt.2 h_)
                by_cases c22 : x10_1.size + (((((⟨#[105, 110, 99, 108, 117, 100, 101, 32]⟩ : ByteArray) ++ t420) ++ (⟨#[32, 97, 115, 32]⟩ : ByteArray)) ++ ((rd_T35 l1 x11_1).f1)) ++ (⟨#[59, 10]⟩ : ByteArray)).size ≤ 9223372036854775807
                ·rw [if_pos c22] at H
                 have c22b0 := eq_true c22
                 have c22b1 : decide (x10_1.size + (((((⟨#[105, 110, 99, 108, 117, 100, 101, 32]⟩ : ByteArray) ++ t420) ++ (⟨#[32, 97, 115, 32]⟩ : ByteArray)) ++ ((rd_T35 l1 x11_1).f1)) ++ (⟨#[59, 10]⟩ : ByteArray)).size ≤ 9223372036854775807) = true := decide_eq_true c22
                 try have c22b2 : (9223372036854775807 < x10_1.size + (((((⟨#[105, 110, 99, 108, 117, 100, 101, 32]⟩ : ByteArray) ++ t420) ++ (⟨#[32, 97, 115, 32]⟩ : ByteArray)) ++ ((rd_T35 l1 x11_1).f1)) ++ (⟨#[59, 10]⟩ : ByteArray)).size) = False := eq_false (Nat.not_lt.2 c22)
                 try have c22b2z : (9223372036854775807 < x10_1.size + 8 + t420.size + 4 + ((rd_T35 l1 x11_1).f1).size + 2) = False := eq_false (by have h_ := c22; simp only [ByteArray.size_append] at h_; exact Nat.not_lt.2 h_)
                 have H' := Aside0.mk H
                 clear H
                 have p424 : 0 ≤ (x11_1 : Int) := of_decide_eq_true (by first | (with_reducible assumption) | assumption)
                 have q424 : x11_1 < (l1.length : Int) := of_decide_eq_true (by first | (with_reducible assumption) | assumption)
                 obtain ⟨ad424, e424, hx424_0, hx424_1, hx424_2⟩ := at_T35 HR1.out x11_1 p424 q424
                 obtain rfl : ad419 = ad424 := (by injection e424)
                 replace hx424_0 := (HB.out.cell (World.block_lt_of_cell? w _ hx424_0)).trans hx424_0
                 replace hx424_1 := (HB.out.cell (World.block_lt_of_cell? w _ hx424_1)).trans hx424_1
                 replace hx424_2 := (HB.out.cell (World.block_lt_of_cell? w _ hx424_2)).trans hx424_2
                 replace p424 := eq_true p424
                 replace q424 := eq_true q424
                 go_wp2
                 go_roundg kj8
                 case measure => have := HK1.out; have := HJ8.out; omega
                 case rel => exact ⟨(x10_1 ++ (((((⟨#[105, 110, 99, 108, 117, 100, 101, 32]⟩ : ByteArray) ++ t420) ++ (⟨#[32, 97, 115, 32]⟩ : ByteArray)) ++ ((rd_T35 l1 x11_1).f1)) ++ (⟨#[59, 10]⟩ : ByteArray))), (wrap64 (x11_1 + 1)), (by first | rfl | (simp; done) | (simp [*]; done)), (by first | rfl | (simp; done) | (simp [*]; done)), H', ⟨by have := HK1.out; have := HJ8.out; omega⟩, ⟨by repeat (first | (with_reducible first | exact HB.out | apply bw1 | apply bw2 | apply bw3) | exact HB.out)⟩⟩
                ·rw [if_neg c22] at H
                 exact absurd H (by simp)
               ·rw [if_neg c21] at H
                exact absurd H (by simp)
              ·rw [if_neg c20] at H
               exact absurd H (by simp)
             ·rw [if_neg c19] at H
              exact absurd H (by simp)
            ·rw [if_neg c18] at H
             exact absurd H (by simp)
           ·rw [if_neg c17] at H
            exact absurd H (by simp)
          ·rw [if_neg c16] at H
           exact absurd H (by simp)
         ·rw [if_neg c15] at H
          have c15b0 : decide ((x10_1.size : Int) ≤ 65536) = false := decide_eq_false c15
          have c15b1 : decide (x10_1.size ≤ 65536) = false := decide_eq_false (by omega)
          clear c15
          have H' := Aside0.mk H
          clear H
          go_wp2
          go_roundg kj8
          case measure => have := HK1.out; have := HJ8.out; omega
          case rel => exact ⟨(x10_1), (wrap64 (x11_1 + 1)), (by first | rfl | (simp; done) | (simp [*]; done)), (by first | rfl | (simp; done) | (simp [*]; done)), H', ⟨by have := HK1.out; have := HJ8.out; omega⟩, ⟨by repeat (first | (with_reducible first | exact HB.out | apply bw1 | apply bw2 | apply bw3) | exact HB.out)⟩⟩
     ·rw [if_neg c7] at H
      exact absurd H (by simp)
    ·rw [if_neg c6] at H
     have c6b0 : decide (x11_1 < (l1.length : Int)) = false := decide_eq_false c6
     clear c6
     by_cases c23 : 0 ≤ t414
     ·rw [if_pos c23] at H
      have c23b0 := eq_true c23
      have c23b1 : decide (0 ≤ t414) = true := decide_eq_true c23
      clear c23
      by_cases c24 : t414 ≤ (a0.size : Int)
      ·rw [if_pos c24] at H
       have c24b0 := eq_true c24
       have c24b1 : decide (t414 ≤ (a0.size : Int)) = true := decide_eq_true c24
       clear c24
       by_cases c25 : x10_1.size + (a0.extract (t414 : Int).toNat a0.size).size ≤ 9223372036854775807
       ·rw [if_pos c25] at H
        have c25b0 := eq_true c25
        have c25b1 : decide (x10_1.size + (a0.extract (t414 : Int).toNat a0.size).size ≤ 9223372036854775807) = true := decide_eq_true c25
        try have c25b2 : (9223372036854775807 < x10_1.size + (a0.extract (t414 : Int).toNat a0.size).size) = False := eq_false (Nat.not_lt.2 c25)
        by_cases c26 : ((x10_1 ++ (a0.extract (t414 : Int).toNat a0.size)).size : Int) > 65536
        ·rw [if_pos c26] at H
         have c26b0 : decide (65536 < ((x10_1 ++ (a0.extract (t414 : Int).toNat a0.size)).size : Int)) = true := decide_eq_true c26
         try have c26bz : decide (65536 < ((x10_1.size : Nat) : Int) + ((a0.size - (t414 : Int).toNat : Nat) : Int)) = true := by rw [show (((x10_1.size : Nat) : Int) + ((a0.size - (t414 : Int).toNat : Nat) : Int) : Int) = ((x10_1 ++ (a0.extract (t414 : Int).toNat a0.size)).size : Int) by simp]; exact c26b0
         have c26b1 : decide (65536 < (x10_1 ++ (a0.extract (t414 : Int).toNat a0.size)).size) = true := decide_eq_true (by omega)
         clear c26
         simp only [Option.some.injEq, Prod.mk.injEq] at H
         obtain ⟨rfl, rfl⟩ := H
         go_wp2
         go_ret2
         exact ⟨by first | rfl | (simp [*, errW_none, errW_some] <;> rfl), by repeat (first | (with_reducible first | exact HB.out | apply bw1 | apply bw2 | apply bw3) | exact HB.out)⟩
        ·rw [if_neg c26] at H
         have c26b0 : decide (65536 < ((x10_1 ++ (a0.extract (t414 : Int).toNat a0.size)).size : Int)) = false := decide_eq_false c26
         try have c26bz : decide (65536 < ((x10_1.size : Nat) : Int) + ((a0.size - (t414 : Int).toNat : Nat) : Int)) = false := by rw [show (((x10_1.size : Nat) : Int) + ((a0.size - (t414 : Int).toNat : Nat) : Int) : Int) = ((x10_1 ++ (a0.extract (t414 : Int).toNat a0.size)).size : Int) by simp]; exact c26b0
         have c26b1 : decide (65536 < (x10_1 ++ (a0.extract (t414 : Int).toNat a0.size)).size) = false := decide_eq_false (by omega)
         clear c26
         simp only [Option.some.injEq, Prod.mk.injEq] at H
         obtain ⟨rfl, rfl⟩ := H
         go_wp2
         go_ret2
         exact ⟨by first | rfl | (simp [*, errW_none, errW_some] <;> rfl), by repeat (first | (with_reducible first | exact HB.out | apply bw1 | apply bw2 | apply bw3) | exact HB.out)⟩
       ·rw [if_neg c25] at H
        exact absurd H (by simp)
      ·rw [if_neg c24] at H
       exact absurd H (by simp)
     ·rw [if_neg c23] at H
      exact absurd H (by simp)
 ·rw [if_neg c4] at H
  have c4b0 : (t415 == 0) = false := beq_eq_false_iff_ne.mpr c4
  have c4b1 : (t415 != 0) = true := bne_iff_ne.mpr c4
  simp only [Option.some.injEq, Prod.mk.injEq] at H
  obtain ⟨rfl, rfl⟩ := H
  go_enter Tryd.func14, Tryd.ntmps14
  go_wp2_with (first | ((with_reducible refine gate_callee (f := 8) rfl ?_); refine goesL_ (some 16) rfl rfl Tryd.func8 (by kernel_rfl) rfl #[.string a0] rfl (am.trans (by rfl)) ?_; (with_reducible refine (treadleref13_Includes.calls k a0 t413 t414 t415 t416 _ A3.out).mono ?_); rintro e w27 ⟨v417, rfl, ho0, hb⟩; refine ⟨_, rfl, ?_⟩; have n0_ := Aside0.mk (Kd.R_lower ho0 (below_size (by repeat (first | (with_reducible first | exact HB.out | apply bw1 | apply bw2 | apply bw3) | exact HB.out)))); have n1_ := Aside0.mk (below_step (by repeat (first | (with_reducible first | exact HB.out | apply bw1 | apply bw2 | apply bw3) | exact HB.out)) hb); clear HB; have HO418 := n0_; have HB := n1_; clear n0_ n1_; (try clear hb); (try clear hb2); (try clear hk); (try clear hi); (try clear ho0)))
  go_ret2
  exact ⟨by first | rfl | (simp [*, errW_none, errW_some] <;> rfl), by repeat (first | (with_reducible first | exact HB.out | apply bw1 | apply bw2 | apply bw3) | exact HB.out)⟩
set_option maxHeartbeats 8000000 in
set_option maxRecDepth 100000 in
theorem treadlelaw13_ScanPuts.calls (k : Nat) (a0 : ByteArray) (A1 : Option Addr) (c1 : Nat) (l1 : List (S35)) (r : Bool) (w : World) (hr1 : Kd.C k35 w A1 l1.length l1) (hc1 : l1.length ≤ c1) (h : treadlelaw13_ScanPuts.f k a0 l1 = some r) (hI_ : Inv w) :
  Calls Tryd.prog 4 #[.string a0, .slice A1 l1.length c1] w fun e w' => e = .returned (.bool r) ∧ Below w.heap.size w w' := by
 have HI := Aside0.mk hI_
 clear hI_
 have HR1 := Aside0.mk hr1
 have HC1 := Aside0.mk hc1
 clear hr1 hc1
 have HB := Aside0.mk (Below.refl w.heap.size w)
 have H : ((scan_With.f k a0 l1).bind fun bt425 => ((treadleref13_With.f k a0 l1).bind fun bt427 => (if bt425.1.toList = bt427.1.toList then (if bt425.2 = bt427.2 then ((treadlelaw13_alive.f k).bind fun t429 => (some t429)) else (some false)) else (some false)))) = some r := h
 clear h
 replace H := Option.bind_eq_some_iff.mp H
 obtain ⟨⟨t425, t426⟩, A30, H⟩ := H
 replace H : ((treadleref13_With.f k a0 l1).bind fun bt427 => (if t425.toList = bt427.1.toList then (if t426 = bt427.2 then ((treadlelaw13_alive.f k).bind fun t429 => (some t429)) else (some false)) else (some false))) = some r := H
 have A3 := Aside0.mk A30
 clear A30
 replace H := Option.bind_eq_some_iff.mp H
 obtain ⟨⟨t427, t428⟩, A40, H⟩ := H
 replace H : (if t425.toList = t427.toList then (if t426 = t428 then ((treadlelaw13_alive.f k).bind fun t429 => (some t429)) else (some false)) else (some false)) = some r := H
 have A4 := Aside0.mk A40
 clear A40
 by_cases c5 : t425.toList = t427.toList
 ·rw [if_pos c5] at H
  have c5b0 : (t425.toList == t427.toList) = true := beq_iff_eq.mpr c5
  have c5b1 : (t425.toList != t427.toList) = false := bne_eq_false_iff_eq.mpr c5
  clear c5
  by_cases c6 : t426 = t428
  ·rw [if_pos c6] at H
   have c6b0 : (t426 == t428) = true := beq_iff_eq.mpr c6
   have c6b1 : (t426 != t428) = false := bne_eq_false_iff_eq.mpr c6
   clear c6
   replace H := Option.bind_eq_some_iff.mp H
   obtain ⟨t429, A70, H⟩ := H
   replace H : (some t429) = some r := H
   have A7 := Aside0.mk A70
   clear A70
   obtain rfl := Option.some.inj H
   go_enter Tryd.func4, Tryd.ntmps4
   go_wp2_with (first | ((with_reducible refine gate_callee (f := 13) rfl ?_); refine goesL_ (some 12) rfl rfl Tryd.func13 (by kernel_rfl) rfl #[.string a0, .slice A1 l1.length c1] rfl (am.trans (by rfl)) ?_; (with_reducible refine (scan_With.calls k a0 _ _ l1 t425 t426 _ ?side1 ?side2 A3.out (by first | exact HI.out | exact Inv.below HI.out (by repeat (first | (with_reducible first | exact HB.out | apply bw1 | apply bw2 | apply bw3) | exact HB.out)) | exact Inv.drawn HI.out (by repeat (first | exact Drawn0.refl _ | apply Drawn0.step)))).mono ?_); (case side1 => repeat (first | exact HR1.out | (with_reducible refine Kd.C_alloc ?_ _) | (with_reducible refine Kd.C_drewN ?_ _) | (with_reducible refine Kd.C_drew ?_))); (case side2 => exact HC1.out); rintro e w8 ⟨rfl, hb⟩; refine ⟨_, rfl, ?_⟩; have n0_ := Aside0.mk (below_step (by repeat (first | (with_reducible first | exact HB.out | apply bw1 | apply bw2 | apply bw3) | exact HB.out)) hb); clear HB; have HB := n0_; clear n0_; (try clear hb); (try clear hb2); (try clear hk); (try clear hi)) | ((with_reducible refine gate_callee (f := 14) rfl ?_); refine goesL_ (some 18) rfl rfl Tryd.func14 (by kernel_rfl) rfl #[.string a0, .slice A1 l1.length c1] rfl (am.trans (by rfl)) ?_; (with_reducible refine (treadleref13_With.calls k a0 _ _ l1 t427 t428 _ ?side1 ?side2 A4.out).mono ?_); (case side1 => repeat (first | exact (Kd.C_below HR1.out HB.out) | (with_reducible refine Kd.C_alloc ?_ _) | (with_reducible refine Kd.C_drewN ?_ _) | (with_reducible refine Kd.C_drew ?_))); (case side2 => exact HC1.out); rintro e w9 ⟨rfl, hb⟩; refine ⟨_, rfl, ?_⟩; have n0_ := Aside0.mk (below_step (by repeat (first | (with_reducible first | exact HB.out | apply bw1 | apply bw2 | apply bw3) | exact HB.out)) hb); clear HB; have HB := n0_; clear n0_; (try clear hb); (try clear hb2); (try clear hk); (try clear hi)) | (go_at_call 12; (with_reducible refine (treadlelaw13_alive.calls k  t429 _ A7.out (by first | exact HI.out | exact Inv.below HI.out (by repeat (first | (with_reducible first | exact HB.out | apply bw1 | apply bw2 | apply bw3) | exact HB.out)) | exact Inv.drawn HI.out (by repeat (first | exact Drawn0.refl _ | apply Drawn0.step)))).mono ?_); rintro e w10 ⟨rfl, hb⟩; have n0_ := Aside0.mk (below_step (by repeat (first | (with_reducible first | exact HB.out | apply bw1 | apply bw2 | apply bw3) | exact HB.out)) hb); clear HB; have HB := n0_; clear n0_; (try clear hb); (try clear hb2); (try clear hk); (try clear hi)))
   go_ret
   exact ⟨by first | rfl | (simp [*, errW_none, errW_some] <;> rfl), by repeat (first | (with_reducible first | exact HB.out | apply bw1 | apply bw2 | apply bw3) | exact HB.out)⟩
  ·rw [if_neg c6] at H
   have c6b0 : (t426 == t428) = false := beq_eq_false_iff_ne.mpr c6
   have c6b1 : (t426 != t428) = true := bne_iff_ne.mpr c6
   obtain rfl := Option.some.inj H
   go_enter Tryd.func4, Tryd.ntmps4
   go_wp2_with (first | ((with_reducible refine gate_callee (f := 13) rfl ?_); refine goesL_ (some 12) rfl rfl Tryd.func13 (by kernel_rfl) rfl #[.string a0, .slice A1 l1.length c1] rfl (am.trans (by rfl)) ?_; (with_reducible refine (scan_With.calls k a0 _ _ l1 t425 t426 _ ?side1 ?side2 A3.out (by first | exact HI.out | exact Inv.below HI.out (by repeat (first | (with_reducible first | exact HB.out | apply bw1 | apply bw2 | apply bw3) | exact HB.out)) | exact Inv.drawn HI.out (by repeat (first | exact Drawn0.refl _ | apply Drawn0.step)))).mono ?_); (case side1 => repeat (first | exact HR1.out | (with_reducible refine Kd.C_alloc ?_ _) | (with_reducible refine Kd.C_drewN ?_ _) | (with_reducible refine Kd.C_drew ?_))); (case side2 => exact HC1.out); rintro e w11 ⟨rfl, hb⟩; refine ⟨_, rfl, ?_⟩; have n0_ := Aside0.mk (below_step (by repeat (first | (with_reducible first | exact HB.out | apply bw1 | apply bw2 | apply bw3) | exact HB.out)) hb); clear HB; have HB := n0_; clear n0_; (try clear hb); (try clear hb2); (try clear hk); (try clear hi)) | ((with_reducible refine gate_callee (f := 14) rfl ?_); refine goesL_ (some 18) rfl rfl Tryd.func14 (by kernel_rfl) rfl #[.string a0, .slice A1 l1.length c1] rfl (am.trans (by rfl)) ?_; (with_reducible refine (treadleref13_With.calls k a0 _ _ l1 t427 t428 _ ?side1 ?side2 A4.out).mono ?_); (case side1 => repeat (first | exact (Kd.C_below HR1.out HB.out) | (with_reducible refine Kd.C_alloc ?_ _) | (with_reducible refine Kd.C_drewN ?_ _) | (with_reducible refine Kd.C_drew ?_))); (case side2 => exact HC1.out); rintro e w12 ⟨rfl, hb⟩; refine ⟨_, rfl, ?_⟩; have n0_ := Aside0.mk (below_step (by repeat (first | (with_reducible first | exact HB.out | apply bw1 | apply bw2 | apply bw3) | exact HB.out)) hb); clear HB; have HB := n0_; clear n0_; (try clear hb); (try clear hb2); (try clear hk); (try clear hi)))
   go_ret
   exact ⟨by first | rfl | (simp [*, errW_none, errW_some] <;> rfl), by repeat (first | (with_reducible first | exact HB.out | apply bw1 | apply bw2 | apply bw3) | exact HB.out)⟩
 ·rw [if_neg c5] at H
  have c5b0 : (t425.toList == t427.toList) = false := beq_eq_false_iff_ne.mpr c5
  have c5b1 : (t425.toList != t427.toList) = true := bne_iff_ne.mpr c5
  obtain rfl := Option.some.inj H
  go_enter Tryd.func4, Tryd.ntmps4
  go_wp2_with (first | ((with_reducible refine gate_callee (f := 13) rfl ?_); refine goesL_ (some 12) rfl rfl Tryd.func13 (by kernel_rfl) rfl #[.string a0, .slice A1 l1.length c1] rfl (am.trans (by rfl)) ?_; (with_reducible refine (scan_With.calls k a0 _ _ l1 t425 t426 _ ?side1 ?side2 A3.out (by first | exact HI.out | exact Inv.below HI.out (by repeat (first | (with_reducible first | exact HB.out | apply bw1 | apply bw2 | apply bw3) | exact HB.out)) | exact Inv.drawn HI.out (by repeat (first | exact Drawn0.refl _ | apply Drawn0.step)))).mono ?_); (case side1 => repeat (first | exact HR1.out | (with_reducible refine Kd.C_alloc ?_ _) | (with_reducible refine Kd.C_drewN ?_ _) | (with_reducible refine Kd.C_drew ?_))); (case side2 => exact HC1.out); rintro e w13 ⟨rfl, hb⟩; refine ⟨_, rfl, ?_⟩; have n0_ := Aside0.mk (below_step (by repeat (first | (with_reducible first | exact HB.out | apply bw1 | apply bw2 | apply bw3) | exact HB.out)) hb); clear HB; have HB := n0_; clear n0_; (try clear hb); (try clear hb2); (try clear hk); (try clear hi)) | ((with_reducible refine gate_callee (f := 14) rfl ?_); refine goesL_ (some 18) rfl rfl Tryd.func14 (by kernel_rfl) rfl #[.string a0, .slice A1 l1.length c1] rfl (am.trans (by rfl)) ?_; (with_reducible refine (treadleref13_With.calls k a0 _ _ l1 t427 t428 _ ?side1 ?side2 A4.out).mono ?_); (case side1 => repeat (first | exact (Kd.C_below HR1.out HB.out) | (with_reducible refine Kd.C_alloc ?_ _) | (with_reducible refine Kd.C_drewN ?_ _) | (with_reducible refine Kd.C_drew ?_))); (case side2 => exact HC1.out); rintro e w14 ⟨rfl, hb⟩; refine ⟨_, rfl, ?_⟩; have n0_ := Aside0.mk (below_step (by repeat (first | (with_reducible first | exact HB.out | apply bw1 | apply bw2 | apply bw3) | exact HB.out)) hb); clear HB; have HB := n0_; clear n0_; (try clear hb); (try clear hb2); (try clear hk); (try clear hi)))
  go_ret
  exact ⟨by first | rfl | (simp [*, errW_none, errW_some] <;> rfl), by repeat (first | (with_reducible first | exact HB.out | apply bw1 | apply bw2 | apply bw3) | exact HB.out)⟩
end Go.Proofs.YtifachjefpcgcaaDoor.P
