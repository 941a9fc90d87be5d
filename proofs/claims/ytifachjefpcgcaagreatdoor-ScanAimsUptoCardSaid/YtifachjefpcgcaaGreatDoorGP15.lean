import Derived.Test.YtifachjefpcgcaaGreatDoorGPD
import Derived.Test.YtifachjefpcgcaaGreatDoorGP5
import Derived.Test.YtifachjefpcgcaaGreatDoorGP11
import Derived.Test.YtifachjefpcgcaaGreatDoorGP13
import Derived.Test.YtifachjefpcgcaaGreatDoorGP14
namespace Go.Proofs.YtifachjefpcgcaaGreatDoor.P
open Go.RowKit Go.Proofs.YtifachjefpcgcaaGreatDoorW.PrintWords Go.Proofs.YtifachjefpcgcaaGreatDoorW.PrintLast Go.Proofs.YtifachjefpcgcaaGreatDoorW.PrintMore
attribute [local go_sem] max2_int min2_int max_two min_two max_three min_three max_four min_four
set_option linter.unusedVariables false
set_option linter.unusedSimpArgs false
set_option maxHeartbeats 8000000 in
set_option maxRecDepth 100000 in
theorem lex_token.calls (k : Nat) (a0 : ByteArray) (r1 : Int) (r2 : Int) (r3 : Int) (w : World) (h : lex_token.f k a0 = some (r1, r2, r3)) (hI_ : Inv w) :
  Calls Tryz.prog 61 #[.string a0] w fun e w' => e = .returned (.tuple #[.int .i64 r1, .int .i64 r2, .int .i64 r3]) ∧ Below w.heap.size w w' := by
 have HI := Aside0.mk hI_
 clear hI_
 have HB := Aside0.mk (Below.refl w.heap.size w)
 have H : (if 0 < (a0.size : Int) then ((lex_letter.f (bt a0 0)).bind fun t301 => (if t301 = true then ((lex_run.f a0 0 79).bind fun t302 => (if t302 > 32 then (some (0, 0, 123)) else (if 0 ≤ t302 then (if t302 ≤ (a0.size : Int) then ((lex_Key.f (a0.extract 0 (t302 : Int).toNat)).bind fun t303 => (if t303 = true then (some (4, t302, 0)) else (some (1, t302, 0)))) else (none)) else (none)))) else ((lex_digit.f (bt a0 0)).bind fun t304 => (if t304 = true then ((lex_run.f a0 0 80).bind fun t305 => (if 0 ≤ t305 then (if t305 ≤ (a0.size : Int) then ((lex_whole.f (a0.extract 0 (t305 : Int).toNat)).bind fun bt306 => (if bt306.2 = true then (if t305 < (a0.size : Int) then ((lex_letter.f (bt a0 t305)).bind fun t308 => (lex_token.j0 k t305 t308)) else (lex_token.j0 k t305 false)) else (lex_token.j0 k t305 true))) else (none)) else (none))) else (if (bt a0 0) = 34 then ((lex_quoted.f k a0).bind fun bt309 => (if bt309.2 = 0 then (some (0, 0, 122)) else (some (3, bt309.2, 0)))) else ((lex_sign.f a0).bind fun t311 => (if t311 = 0 then (some (0, 0, 120)) else (some (5, t311, 0))))))))) else (none)) = some (r1, r2, r3) := h
 clear h
 by_cases c2 : 0 < (a0.size : Int)
 ·rw [if_pos c2] at H
  have c2b0 : decide (0 < (a0.size : Int)) = true := decide_eq_true c2
  have c2b1 : decide (0 < a0.size) = true := decide_eq_true (by omega)
  clear c2
  replace H := Option.bind_eq_some_iff.mp H
  obtain ⟨t301, A40, H⟩ := H
  replace H : (if t301 = true then ((lex_run.f a0 0 79).bind fun t302 => (if t302 > 32 then (some (0, 0, 123)) else (if 0 ≤ t302 then (if t302 ≤ (a0.size : Int) then ((lex_Key.f (a0.extract 0 (t302 : Int).toNat)).bind fun t303 => (if t303 = true then (some (4, t302, 0)) else (some (1, t302, 0)))) else (none)) else (none)))) else ((lex_digit.f (bt a0 0)).bind fun t304 => (if t304 = true then ((lex_run.f a0 0 80).bind fun t305 => (if 0 ≤ t305 then (if t305 ≤ (a0.size : Int) then ((lex_whole.f (a0.extract 0 (t305 : Int).toNat)).bind fun bt306 => (if bt306.2 = true then (if t305 < (a0.size : Int) then ((lex_letter.f (bt a0 t305)).bind fun t308 => (lex_token.j0 k t305 t308)) else (lex_token.j0 k t305 false)) else (lex_token.j0 k t305 true))) else (none)) else (none))) else (if (bt a0 0) = 34 then ((lex_quoted.f k a0).bind fun bt309 => (if bt309.2 = 0 then (some (0, 0, 122)) else (some (3, bt309.2, 0)))) else ((lex_sign.f a0).bind fun t311 => (if t311 = 0 then (some (0, 0, 120)) else (some (5, t311, 0)))))))) = some (r1, r2, r3) := H
  have A4 := Aside0.mk A40
  clear A40
  by_cases c5 : t301 = true
  ·subst c5
   have H1 : ((lex_run.f a0 0 79).bind fun t302 => (if t302 > 32 then (some (0, 0, 123)) else (if 0 ≤ t302 then (if t302 ≤ (a0.size : Int) then ((lex_Key.f (a0.extract 0 (t302 : Int).toNat)).bind fun t303 => (if t303 = true then (some (4, t302, 0)) else (some (1, t302, 0)))) else (none)) else (none)))) = some (r1, r2, r3) := by rw [if_pos rfl] at H; exact H
   clear H
   have H := H1
   clear H1
   replace H := Option.bind_eq_some_iff.mp H
   obtain ⟨t302, A60, H⟩ := H
   replace H : (if t302 > 32 then (some (0, 0, 123)) else (if 0 ≤ t302 then (if t302 ≤ (a0.size : Int) then ((lex_Key.f (a0.extract 0 (t302 : Int).toNat)).bind fun t303 => (if t303 = true then (some (4, t302, 0)) else (some (1, t302, 0)))) else (none)) else (none))) = some (r1, r2, r3) := H
   have A6 := Aside0.mk A60
   clear A60
   by_cases c7 : t302 > 32
   ·rw [if_pos c7] at H
    have c7b0 : decide (32 < t302) = true := decide_eq_true c7
    clear c7
    simp only [Option.some.injEq, Prod.mk.injEq] at H
    obtain ⟨rfl, rfl, rfl⟩ := H
    have p3 : 0 ≤ (0 : Int) := (by omega)
    have q3 : 0 < a0.size := (by have : (0 : Int) < (a0.size : Int) := of_decide_eq_true (by first | (with_reducible assumption) | assumption); omega)
    have hx3 : ∀ h : 0 < a0.size, ((a0[0]'h).toNat : Int) = bt a0 0 := bt_at a0 0
    clear p3
    have qi3 : (0 < (a0.size : Int)) = True := eq_true (of_decide_eq_true (by first | (with_reducible assumption) | assumption))
    replace q3 := eq_true q3
    go_enter Tryz.func61, Tryz.ntmps61
    go_wp2_with (first | ((with_reducible refine gate_callee (f := 77) rfl ?_); refine goesL_ (some 17) rfl rfl Tryz.func77 (by kernel_rfl) rfl #[.int .u8 (bt a0 0)] rfl (am.trans (by rfl)) ?_; (with_reducible refine (lex_letter.calls (bt a0 0) true _ A4.out).mono ?_); rintro e w' ⟨rfl, ⟨nd, rfl⟩⟩; refine ⟨_, rfl, ?_⟩) | ((with_reducible refine gate_callee (f := 78) rfl ?_); refine goesL_ (some 19) rfl rfl Tryz.func78 (by kernel_rfl) rfl #[.string a0, .int .i64 0, .func (.func 79) #[] #[]] rfl (am.trans (by rfl)) ?_; (with_reducible refine (lex_run.calls a0 0 79 t302 _ A6.out).mono ?_); rintro e w' ⟨rfl, ⟨nd, rfl⟩⟩; refine ⟨_, rfl, ?_⟩))
    go_ret3
    exact ⟨by first | rfl | (simp [*, errW_none, errW_some] <;> rfl), by repeat (first | (with_reducible first | exact HB.out | apply bw1 | apply bw2 | apply bw3) | exact HB.out)⟩
   ·rw [if_neg c7] at H
    have c7b0 : decide (32 < t302) = false := decide_eq_false c7
    clear c7
    by_cases c8 : 0 ≤ t302
    ·rw [if_pos c8] at H
     have c8b0 := eq_true c8
     have c8b1 : decide (0 ≤ t302) = true := decide_eq_true c8
     clear c8
     by_cases c9 : t302 ≤ (a0.size : Int)
     ·rw [if_pos c9] at H
      have c9b0 := eq_true c9
      have c9b1 : decide (t302 ≤ (a0.size : Int)) = true := decide_eq_true c9
      clear c9
      replace H := Option.bind_eq_some_iff.mp H
      obtain ⟨t303, A100, H⟩ := H
      replace H : (if t303 = true then (some (4, t302, 0)) else (some (1, t302, 0))) = some (r1, r2, r3) := H
      have A10 := Aside0.mk A100
      clear A100
      by_cases c11 : t303 = true
      ·subst c11
       have H1 : (some (4, t302, 0)) = some (r1, r2, r3) := by rw [if_pos rfl] at H; exact H
       clear H
       have H := H1
       clear H1
       simp only [Option.some.injEq, Prod.mk.injEq] at H
       obtain ⟨rfl, rfl, rfl⟩ := H
       have p3 : 0 ≤ (0 : Int) := (by omega)
       have q3 : 0 < a0.size := (by have : (0 : Int) < (a0.size : Int) := of_decide_eq_true (by first | (with_reducible assumption) | assumption); omega)
       have hx3 : ∀ h : 0 < a0.size, ((a0[0]'h).toNat : Int) = bt a0 0 := bt_at a0 0
       clear p3
       have qi3 : (0 < (a0.size : Int)) = True := eq_true (of_decide_eq_true (by first | (with_reducible assumption) | assumption))
       replace q3 := eq_true q3
       go_enter Tryz.func61, Tryz.ntmps61
       go_wp2_with (first | ((with_reducible refine gate_callee (f := 77) rfl ?_); refine goesL_ (some 17) rfl rfl Tryz.func77 (by kernel_rfl) rfl #[.int .u8 (bt a0 0)] rfl (am.trans (by rfl)) ?_; (with_reducible refine (lex_letter.calls (bt a0 0) true _ A4.out).mono ?_); rintro e w' ⟨rfl, ⟨nd, rfl⟩⟩; refine ⟨_, rfl, ?_⟩) | ((with_reducible refine gate_callee (f := 78) rfl ?_); refine goesL_ (some 19) rfl rfl Tryz.func78 (by kernel_rfl) rfl #[.string a0, .int .i64 0, .func (.func 79) #[] #[]] rfl (am.trans (by rfl)) ?_; (with_reducible refine (lex_run.calls a0 0 79 t302 _ A6.out).mono ?_); rintro e w' ⟨rfl, ⟨nd, rfl⟩⟩; refine ⟨_, rfl, ?_⟩) | ((with_reducible refine gate_callee (f := 81) rfl ?_); refine goesL_ (some 25) rfl rfl Tryz.func81 (by kernel_rfl) rfl #[.string (a0.extract 0 (t302 : Int).toNat)] rfl (am.trans (by rfl)) ?_; (with_reducible refine (lex_Key.calls (a0.extract 0 (t302 : Int).toNat) true _ A10.out).mono ?_); rintro e w12 ⟨rfl, hb⟩; refine ⟨_, rfl, ?_⟩; have n0_ := Aside0.mk (below_step (by repeat (first | (with_reducible first | exact HB.out | apply bw1 | apply bw2 | apply bw3) | exact HB.out)) hb); clear HB; have HB := n0_; clear n0_; (try clear hb); (try clear hb2); (try clear hk); (try clear hi)))
       go_ret3
       exact ⟨by first | rfl | (simp [*, errW_none, errW_some] <;> rfl), by repeat (first | (with_reducible first | exact HB.out | apply bw1 | apply bw2 | apply bw3) | exact HB.out)⟩
      ·replace c11 := Bool.eq_false_iff.mpr c11
       subst c11
       have H1 : (some (1, t302, 0)) = some (r1, r2, r3) := by rw [if_neg (show ¬ (false = true) by decide)] at H; exact H
       clear H
       have H := H1
       clear H1
       simp only [Option.some.injEq, Prod.mk.injEq] at H
       obtain ⟨rfl, rfl, rfl⟩ := H
       have p3 : 0 ≤ (0 : Int) := (by omega)
       have q3 : 0 < a0.size := (by have : (0 : Int) < (a0.size : Int) := of_decide_eq_true (by first | (with_reducible assumption) | assumption); omega)
       have hx3 : ∀ h : 0 < a0.size, ((a0[0]'h).toNat : Int) = bt a0 0 := bt_at a0 0
       clear p3
       have qi3 : (0 < (a0.size : Int)) = True := eq_true (of_decide_eq_true (by first | (with_reducible assumption) | assumption))
       replace q3 := eq_true q3
       go_enter Tryz.func61, Tryz.ntmps61
       go_wp2_with (first | ((with_reducible refine gate_callee (f := 77) rfl ?_); refine goesL_ (some 17) rfl rfl Tryz.func77 (by kernel_rfl) rfl #[.int .u8 (bt a0 0)] rfl (am.trans (by rfl)) ?_; (with_reducible refine (lex_letter.calls (bt a0 0) true _ A4.out).mono ?_); rintro e w' ⟨rfl, ⟨nd, rfl⟩⟩; refine ⟨_, rfl, ?_⟩) | ((with_reducible refine gate_callee (f := 78) rfl ?_); refine goesL_ (some 19) rfl rfl Tryz.func78 (by kernel_rfl) rfl #[.string a0, .int .i64 0, .func (.func 79) #[] #[]] rfl (am.trans (by rfl)) ?_; (with_reducible refine (lex_run.calls a0 0 79 t302 _ A6.out).mono ?_); rintro e w' ⟨rfl, ⟨nd, rfl⟩⟩; refine ⟨_, rfl, ?_⟩) | ((with_reducible refine gate_callee (f := 81) rfl ?_); refine goesL_ (some 25) rfl rfl Tryz.func81 (by kernel_rfl) rfl #[.string (a0.extract 0 (t302 : Int).toNat)] rfl (am.trans (by rfl)) ?_; (with_reducible refine (lex_Key.calls (a0.extract 0 (t302 : Int).toNat) false _ A10.out).mono ?_); rintro e w13 ⟨rfl, hb⟩; refine ⟨_, rfl, ?_⟩; have n0_ := Aside0.mk (below_step (by repeat (first | (with_reducible first | exact HB.out | apply bw1 | apply bw2 | apply bw3) | exact HB.out)) hb); clear HB; have HB := n0_; clear n0_; (try clear hb); (try clear hb2); (try clear hk); (try clear hi)))
       go_ret3
       exact ⟨by first | rfl | (simp [*, errW_none, errW_some] <;> rfl), by repeat (first | (with_reducible first | exact HB.out | apply bw1 | apply bw2 | apply bw3) | exact HB.out)⟩
     ·rw [if_neg c9] at H
      exact absurd H (by simp)
    ·rw [if_neg c8] at H
     exact absurd H (by simp)
  ·replace c5 := Bool.eq_false_iff.mpr c5
   subst c5
   have H1 : ((lex_digit.f (bt a0 0)).bind fun t304 => (if t304 = true then ((lex_run.f a0 0 80).bind fun t305 => (if 0 ≤ t305 then (if t305 ≤ (a0.size : Int) then ((lex_whole.f (a0.extract 0 (t305 : Int).toNat)).bind fun bt306 => (if bt306.2 = true then (if t305 < (a0.size : Int) then ((lex_letter.f (bt a0 t305)).bind fun t308 => (lex_token.j0 k t305 t308)) else (lex_token.j0 k t305 false)) else (lex_token.j0 k t305 true))) else (none)) else (none))) else (if (bt a0 0) = 34 then ((lex_quoted.f k a0).bind fun bt309 => (if bt309.2 = 0 then (some (0, 0, 122)) else (some (3, bt309.2, 0)))) else ((lex_sign.f a0).bind fun t311 => (if t311 = 0 then (some (0, 0, 120)) else (some (5, t311, 0))))))) = some (r1, r2, r3) := by rw [if_neg (show ¬ (false = true) by decide)] at H; exact H
   clear H
   have H := H1
   clear H1
   replace H := Option.bind_eq_some_iff.mp H
   obtain ⟨t304, A140, H⟩ := H
   replace H : (if t304 = true then ((lex_run.f a0 0 80).bind fun t305 => (if 0 ≤ t305 then (if t305 ≤ (a0.size : Int) then ((lex_whole.f (a0.extract 0 (t305 : Int).toNat)).bind fun bt306 => (if bt306.2 = true then (if t305 < (a0.size : Int) then ((lex_letter.f (bt a0 t305)).bind fun t308 => (lex_token.j0 k t305 t308)) else (lex_token.j0 k t305 false)) else (lex_token.j0 k t305 true))) else (none)) else (none))) else (if (bt a0 0) = 34 then ((lex_quoted.f k a0).bind fun bt309 => (if bt309.2 = 0 then (some (0, 0, 122)) else (some (3, bt309.2, 0)))) else ((lex_sign.f a0).bind fun t311 => (if t311 = 0 then (some (0, 0, 120)) else (some (5, t311, 0)))))) = some (r1, r2, r3) := H
   have A14 := Aside0.mk A140
   clear A140
   by_cases c15 : t304 = true
   ·subst c15
    have H1 : ((lex_run.f a0 0 80).bind fun t305 => (if 0 ≤ t305 then (if t305 ≤ (a0.size : Int) then ((lex_whole.f (a0.extract 0 (t305 : Int).toNat)).bind fun bt306 => (if bt306.2 = true then (if t305 < (a0.size : Int) then ((lex_letter.f (bt a0 t305)).bind fun t308 => (lex_token.j0 k t305 t308)) else (lex_token.j0 k t305 false)) else (lex_token.j0 k t305 true))) else (none)) else (none))) = some (r1, r2, r3) := by rw [if_pos rfl] at H; exact H
    clear H
    have H := H1
    clear H1
    replace H := Option.bind_eq_some_iff.mp H
    obtain ⟨t305, A160, H⟩ := H
    replace H : (if 0 ≤ t305 then (if t305 ≤ (a0.size : Int) then ((lex_whole.f (a0.extract 0 (t305 : Int).toNat)).bind fun bt306 => (if bt306.2 = true then (if t305 < (a0.size : Int) then ((lex_letter.f (bt a0 t305)).bind fun t308 => (lex_token.j0 k t305 t308)) else (lex_token.j0 k t305 false)) else (lex_token.j0 k t305 true))) else (none)) else (none)) = some (r1, r2, r3) := H
    have A16 := Aside0.mk A160
    clear A160
    by_cases c17 : 0 ≤ t305
    ·rw [if_pos c17] at H
     have c17b0 := eq_true c17
     have c17b1 : decide (0 ≤ t305) = true := decide_eq_true c17
     clear c17
     by_cases c18 : t305 ≤ (a0.size : Int)
     ·rw [if_pos c18] at H
      have c18b0 := eq_true c18
      have c18b1 : decide (t305 ≤ (a0.size : Int)) = true := decide_eq_true c18
      clear c18
      replace H := Option.bind_eq_some_iff.mp H
      obtain ⟨⟨t306, t307⟩, A190, H⟩ := H
      replace H : (if t307 = true then (if t305 < (a0.size : Int) then ((lex_letter.f (bt a0 t305)).bind fun t308 => (lex_token.j0 k t305 t308)) else (lex_token.j0 k t305 false)) else (lex_token.j0 k t305 true)) = some (r1, r2, r3) := H
      have A19 := Aside0.mk A190
      clear A190
      have HC20 := Aside0.mk H
      clear H
      have p3 : 0 ≤ (0 : Int) := (by omega)
      have q3 : 0 < a0.size := (by have : (0 : Int) < (a0.size : Int) := of_decide_eq_true (by first | (with_reducible assumption) | assumption); omega)
      have hx3 : ∀ h : 0 < a0.size, ((a0[0]'h).toNat : Int) = bt a0 0 := bt_at a0 0
      clear p3
      have qi3 : (0 < (a0.size : Int)) = True := eq_true (of_decide_eq_true (by first | (with_reducible assumption) | assumption))
      replace q3 := eq_true q3
      go_enter Tryz.func61, Tryz.ntmps61
      go_upto_region 12 with (first | ((with_reducible refine gate_callee (f := 77) rfl ?_); refine goesL_ (some 17) rfl rfl Tryz.func77 (by kernel_rfl) rfl #[.int .u8 (bt a0 0)] rfl (am.trans (by rfl)) ?_; (with_reducible refine (lex_letter.calls (bt a0 0) false _ A4.out).mono ?_); rintro e w' ⟨rfl, ⟨nd, rfl⟩⟩; refine ⟨_, rfl, ?_⟩) | ((with_reducible refine gate_callee (f := 80) rfl ?_); refine goesL_ (some 30) rfl rfl Tryz.func80 (by kernel_rfl) rfl #[.int .u8 (bt a0 0)] rfl (am.trans (by rfl)) ?_; (with_reducible refine (lex_digit.calls (bt a0 0) true _ A14.out).mono ?_); rintro e w' ⟨rfl, ⟨nd, rfl⟩⟩; refine ⟨_, rfl, ?_⟩) | ((with_reducible refine gate_callee (f := 78) rfl ?_); refine goesL_ (some 32) rfl rfl Tryz.func78 (by kernel_rfl) rfl #[.string a0, .int .i64 0, .func (.func 80) #[] #[]] rfl (am.trans (by rfl)) ?_; (with_reducible refine (lex_run.calls a0 0 80 t305 _ A16.out).mono ?_); rintro e w' ⟨rfl, ⟨nd, rfl⟩⟩; refine ⟨_, rfl, ?_⟩) | ((with_reducible refine gate_callee (f := 82) rfl ?_); refine goesL_ (some 37) rfl rfl Tryz.func82 (by kernel_rfl) rfl #[.string (a0.extract 0 (t305 : Int).toNat)] rfl (am.trans (by rfl)) ?_; (with_reducible refine (lex_whole.calls (a0.extract 0 (t305 : Int).toNat) t306 t307 _ A19.out (by first | exact HI.out | exact Inv.below HI.out (by repeat (first | (with_reducible first | exact HB.out | apply bw1 | apply bw2 | apply bw3) | exact HB.out)) | exact Inv.drawn HI.out (by repeat (first | exact Drawn0.refl _ | apply Drawn0.step)))).mono ?_); rintro e w21 ⟨rfl, hb⟩; refine ⟨_, rfl, ?_⟩; have n0_ := Aside0.mk (below_step (by repeat (first | (with_reducible first | exact HB.out | apply bw1 | apply bw2 | apply bw3) | exact HB.out)) hb); clear HB; have HB := n0_; clear n0_; (try clear hb); (try clear hb2); (try clear hk); (try clear hi)))
      (try simp only [Act.put, List.setIfInBounds_toArray, List.set_cons_zero, List.set_cons_succ])
      go_cut [53] (fun v53 wc => ∃ (kq : Nat) (x53_19 : Bool), v53 = .bool x53_19 ∧ Aside0 (lex_token.j0 kq t305 x53_19 = some (r1, r2, r3)) ∧ Aside0 (kq ≤ k) ∧ Aside0 (Below w.heap.size w wc))
      case first =>
       have H := HC20.out
       clear HC20
       by_cases c22 : t307 = true
       ·subst c22
        have H1 : (if t305 < (a0.size : Int) then ((lex_letter.f (bt a0 t305)).bind fun t308 => (lex_token.j0 k t305 t308)) else (lex_token.j0 k t305 false)) = some (r1, r2, r3) := by rw [if_pos rfl] at H; exact H
        clear H
        have H := H1
        clear H1
        by_cases c23 : t305 < (a0.size : Int)
        ·rw [if_pos c23] at H
         have c23b0 : decide (t305 < (a0.size : Int)) = true := decide_eq_true c23
         clear c23
         (first | rw [c23b0] | (simp only [i64_w, i32_w]; rw [c23b0]) | skip)
         replace H := Option.bind_eq_some_iff.mp H
         obtain ⟨t308, A250, H⟩ := H
         replace H : (lex_token.j0 k t305 t308) = some (r1, r2, r3) := H
         have A25 := Aside0.mk A250
         clear A250
         have H' := Aside0.mk H
         clear H
         have p24 : 0 ≤ (t305 : Int) := of_decide_eq_true (by first | (with_reducible assumption) | assumption)
         have q24 : t305 < (a0.size : Int) := of_decide_eq_true (by first | (with_reducible assumption) | assumption)
         have hx24 := bt_at a0 t305
         replace p24 := eq_true p24
         replace q24 := eq_true q24
         go_wp2_with (first | (go_at_call 77; (with_reducible refine (lex_letter.calls (bt a0 t305) t308 _ A25.out).mono ?_); rintro e w' ⟨rfl, ⟨nd, rfl⟩⟩))
         go_meet
         case rel => exact ⟨_, (t308), (by first | rfl | (simp; done) | (simp [*]; done)), H', ⟨by first | omega | exact Nat.le_refl _⟩, ⟨by repeat (first | (with_reducible first | exact HB.out | apply bw1 | apply bw2 | apply bw3) | exact HB.out)⟩⟩
        ·rw [if_neg c23] at H
         have c23b0 : decide (t305 < (a0.size : Int)) = false := decide_eq_false c23
         clear c23
         (first | rw [c23b0] | (simp only [i64_w, i32_w]; rw [c23b0]) | skip)
         have H' := Aside0.mk H
         clear H
         go_wp2
         go_meet
         case rel => exact ⟨_, (false), (by first | rfl | (simp; done) | (simp [*]; done)), H', ⟨by first | omega | exact Nat.le_refl _⟩, ⟨by repeat (first | (with_reducible first | exact HB.out | apply bw1 | apply bw2 | apply bw3) | exact HB.out)⟩⟩
       ·replace c22 := Bool.eq_false_iff.mpr c22
        subst c22
        have H1 : (lex_token.j0 k t305 true) = some (r1, r2, r3) := by rw [if_neg (show ¬ (false = true) by decide)] at H; exact H
        clear H
        have H := H1
        clear H1
        have H' := Aside0.mk H
        clear H
        go_wp2
        go_meet
        case rel => exact ⟨_, (true), (by first | rfl | (simp; done) | (simp [*]; done)), H', ⟨by first | omega | exact Nat.le_refl _⟩, ⟨by repeat (first | (with_reducible first | exact HB.out | apply bw1 | apply bw2 | apply bw3) | exact HB.out)⟩⟩
      case rest =>
       clear HC20
       try clear c1
       try clear c2
       try clear c2b0
       try clear c2b1
       try clear p2
       try clear q2
       try clear hx2
       try clear p3
       try clear q3
       try clear hx3
       try clear qi3
       try clear c5
       try clear c6
       try clear c7
       try clear c7b0
       try clear c8
       try clear c8b0
       try clear c8b1
       try clear c9
       try clear c9b0
       try clear c9b1
       try clear c11
       try clear c15
       try clear c17
       try clear c17b0
       try clear c17b1
       try clear c18
       try clear c18b0
       try clear c18b1
       try clear c22
       try clear c23
       try clear c23b0
       try clear p24
       try clear q24
       try clear hx24
       try clear p24
       try clear p3
       try clear q24
       try clear q3
       obtain ⟨kq, x53_19, rfl, HA, HJ19, HB⟩ := hcut
       cases kq with
       | zero => exact absurd HA.out (by simp [lex_token.j0])
       | succ kj19 =>
        have H := HA.out
        clear HA
        simp only [lex_token.j0] at H
        by_cases c26 : x53_19 = true
        ·subst c26
         have H1 : (some (0, 0, 121)) = some (r1, r2, r3) := by rw [if_pos rfl] at H; exact H
         clear H
         have H := H1
         clear H1
         simp only [Option.some.injEq, Prod.mk.injEq] at H
         obtain ⟨rfl, rfl, rfl⟩ := H
         go_wp2
         go_ret3
         exact ⟨by first | rfl | (simp [*, errW_none, errW_some] <;> rfl), by repeat (first | (with_reducible first | exact HB.out | apply bw1 | apply bw2 | apply bw3) | exact HB.out)⟩
        ·replace c26 := Bool.eq_false_iff.mpr c26
         subst c26
         have H1 : (some (2, t305, 0)) = some (r1, r2, r3) := by rw [if_neg (show ¬ (false = true) by decide)] at H; exact H
         clear H
         have H := H1
         clear H1
         simp only [Option.some.injEq, Prod.mk.injEq] at H
         obtain ⟨rfl, rfl, rfl⟩ := H
         go_wp2
         go_ret3
         exact ⟨by first | rfl | (simp [*, errW_none, errW_some] <;> rfl), by repeat (first | (with_reducible first | exact HB.out | apply bw1 | apply bw2 | apply bw3) | exact HB.out)⟩
     ·rw [if_neg c18] at H
      exact absurd H (by simp)
    ·rw [if_neg c17] at H
     exact absurd H (by simp)
   ·replace c15 := Bool.eq_false_iff.mpr c15
    subst c15
    have H1 : (if (bt a0 0) = 34 then ((lex_quoted.f k a0).bind fun bt309 => (if bt309.2 = 0 then (some (0, 0, 122)) else (some (3, bt309.2, 0)))) else ((lex_sign.f a0).bind fun t311 => (if t311 = 0 then (some (0, 0, 120)) else (some (5, t311, 0))))) = some (r1, r2, r3) := by rw [if_neg (show ¬ (false = true) by decide)] at H; exact H
    clear H
    have H := H1
    clear H1
    by_cases c27 : (bt a0 0) = 34
    ·rw [if_pos c27] at H
     have c27b0 : ((bt a0 0) == 34) = true := beq_iff_eq.mpr c27
     have c27b1 : ((bt a0 0) != 34) = false := bne_eq_false_iff_eq.mpr c27
     clear c27
     replace H := Option.bind_eq_some_iff.mp H
     obtain ⟨⟨t309, t310⟩, A280, H⟩ := H
     replace H : (if t310 = 0 then (some (0, 0, 122)) else (some (3, t310, 0))) = some (r1, r2, r3) := H
     have A28 := Aside0.mk A280
     clear A280
     by_cases c29 : t310 = 0
     ·rw [if_pos c29] at H
      have c29b0 : (t310 == 0) = true := beq_iff_eq.mpr c29
      have c29b1 : (t310 != 0) = false := bne_eq_false_iff_eq.mpr c29
      clear c29
      simp only [Option.some.injEq, Prod.mk.injEq] at H
      obtain ⟨rfl, rfl, rfl⟩ := H
      have p3 : 0 ≤ (0 : Int) := (by omega)
      have q3 : 0 < a0.size := (by have : (0 : Int) < (a0.size : Int) := of_decide_eq_true (by first | (with_reducible assumption) | assumption); omega)
      have hx3 : ∀ h : 0 < a0.size, ((a0[0]'h).toNat : Int) = bt a0 0 := bt_at a0 0
      clear p3
      have qi3 : (0 < (a0.size : Int)) = True := eq_true (of_decide_eq_true (by first | (with_reducible assumption) | assumption))
      replace q3 := eq_true q3
      go_enter Tryz.func61, Tryz.ntmps61
      go_wp2_with (first | ((with_reducible refine gate_callee (f := 77) rfl ?_); refine goesL_ (some 17) rfl rfl Tryz.func77 (by kernel_rfl) rfl #[.int .u8 (bt a0 0)] rfl (am.trans (by rfl)) ?_; (with_reducible refine (lex_letter.calls (bt a0 0) false _ A4.out).mono ?_); rintro e w' ⟨rfl, ⟨nd, rfl⟩⟩; refine ⟨_, rfl, ?_⟩) | ((with_reducible refine gate_callee (f := 80) rfl ?_); refine goesL_ (some 30) rfl rfl Tryz.func80 (by kernel_rfl) rfl #[.int .u8 (bt a0 0)] rfl (am.trans (by rfl)) ?_; (with_reducible refine (lex_digit.calls (bt a0 0) false _ A14.out).mono ?_); rintro e w' ⟨rfl, ⟨nd, rfl⟩⟩; refine ⟨_, rfl, ?_⟩) | ((with_reducible refine gate_callee (f := 68) rfl ?_); refine goesL_ (some 60) rfl rfl Tryz.func68 (by kernel_rfl) rfl #[.string a0] rfl (am.trans (by rfl)) ?_; (with_reducible refine (lex_quoted.calls k a0 t309 t310 _ A28.out).mono ?_); rintro e w30 ⟨rfl, hb⟩; refine ⟨_, rfl, ?_⟩; have n0_ := Aside0.mk (below_step (by repeat (first | (with_reducible first | exact HB.out | apply bw1 | apply bw2 | apply bw3) | exact HB.out)) hb); clear HB; have HB := n0_; clear n0_; (try clear hb); (try clear hb2); (try clear hk); (try clear hi)))
      go_ret3
      exact ⟨by first | rfl | (simp [*, errW_none, errW_some] <;> rfl), by repeat (first | (with_reducible first | exact HB.out | apply bw1 | apply bw2 | apply bw3) | exact HB.out)⟩
     ·rw [if_neg c29] at H
      have c29b0 : (t310 == 0) = false := beq_eq_false_iff_ne.mpr c29
      have c29b1 : (t310 != 0) = true := bne_iff_ne.mpr c29
      simp only [Option.some.injEq, Prod.mk.injEq] at H
      obtain ⟨rfl, rfl, rfl⟩ := H
      have p3 : 0 ≤ (0 : Int) := (by omega)
      have q3 : 0 < a0.size := (by have : (0 : Int) < (a0.size : Int) := of_decide_eq_true (by first | (with_reducible assumption) | assumption); omega)
      have hx3 : ∀ h : 0 < a0.size, ((a0[0]'h).toNat : Int) = bt a0 0 := bt_at a0 0
      clear p3
      have qi3 : (0 < (a0.size : Int)) = True := eq_true (of_decide_eq_true (by first | (with_reducible assumption) | assumption))
      replace q3 := eq_true q3
      go_enter Tryz.func61, Tryz.ntmps61
      go_wp2_with (first | ((with_reducible refine gate_callee (f := 77) rfl ?_); refine goesL_ (some 17) rfl rfl Tryz.func77 (by kernel_rfl) rfl #[.int .u8 (bt a0 0)] rfl (am.trans (by rfl)) ?_; (with_reducible refine (lex_letter.calls (bt a0 0) false _ A4.out).mono ?_); rintro e w' ⟨rfl, ⟨nd, rfl⟩⟩; refine ⟨_, rfl, ?_⟩) | ((with_reducible refine gate_callee (f := 80) rfl ?_); refine goesL_ (some 30) rfl rfl Tryz.func80 (by kernel_rfl) rfl #[.int .u8 (bt a0 0)] rfl (am.trans (by rfl)) ?_; (with_reducible refine (lex_digit.calls (bt a0 0) false _ A14.out).mono ?_); rintro e w' ⟨rfl, ⟨nd, rfl⟩⟩; refine ⟨_, rfl, ?_⟩) | ((with_reducible refine gate_callee (f := 68) rfl ?_); refine goesL_ (some 60) rfl rfl Tryz.func68 (by kernel_rfl) rfl #[.string a0] rfl (am.trans (by rfl)) ?_; (with_reducible refine (lex_quoted.calls k a0 t309 t310 _ A28.out).mono ?_); rintro e w31 ⟨rfl, hb⟩; refine ⟨_, rfl, ?_⟩; have n0_ := Aside0.mk (below_step (by repeat (first | (with_reducible first | exact HB.out | apply bw1 | apply bw2 | apply bw3) | exact HB.out)) hb); clear HB; have HB := n0_; clear n0_; (try clear hb); (try clear hb2); (try clear hk); (try clear hi)))
      go_ret3
      exact ⟨by first | rfl | (simp [*, errW_none, errW_some] <;> rfl), by repeat (first | (with_reducible first | exact HB.out | apply bw1 | apply bw2 | apply bw3) | exact HB.out)⟩
    ·rw [if_neg c27] at H
     have c27b0 : ((bt a0 0) == 34) = false := beq_eq_false_iff_ne.mpr c27
     have c27b1 : ((bt a0 0) != 34) = true := bne_iff_ne.mpr c27
     replace H := Option.bind_eq_some_iff.mp H
     obtain ⟨t311, A320, H⟩ := H
     replace H : (if t311 = 0 then (some (0, 0, 120)) else (some (5, t311, 0))) = some (r1, r2, r3) := H
     have A32 := Aside0.mk A320
     clear A320
     by_cases c33 : t311 = 0
     ·rw [if_pos c33] at H
      have c33b0 : (t311 == 0) = true := beq_iff_eq.mpr c33
      have c33b1 : (t311 != 0) = false := bne_eq_false_iff_eq.mpr c33
      clear c33
      simp only [Option.some.injEq, Prod.mk.injEq] at H
      obtain ⟨rfl, rfl, rfl⟩ := H
      have p3 : 0 ≤ (0 : Int) := (by omega)
      have q3 : 0 < a0.size := (by have : (0 : Int) < (a0.size : Int) := of_decide_eq_true (by first | (with_reducible assumption) | assumption); omega)
      have hx3 : ∀ h : 0 < a0.size, ((a0[0]'h).toNat : Int) = bt a0 0 := bt_at a0 0
      clear p3
      have qi3 : (0 < (a0.size : Int)) = True := eq_true (of_decide_eq_true (by first | (with_reducible assumption) | assumption))
      replace q3 := eq_true q3
      go_enter Tryz.func61, Tryz.ntmps61
      go_wp2_with (first | ((with_reducible refine gate_callee (f := 77) rfl ?_); refine goesL_ (some 17) rfl rfl Tryz.func77 (by kernel_rfl) rfl #[.int .u8 (bt a0 0)] rfl (am.trans (by rfl)) ?_; (with_reducible refine (lex_letter.calls (bt a0 0) false _ A4.out).mono ?_); rintro e w' ⟨rfl, ⟨nd, rfl⟩⟩; refine ⟨_, rfl, ?_⟩) | ((with_reducible refine gate_callee (f := 80) rfl ?_); refine goesL_ (some 30) rfl rfl Tryz.func80 (by kernel_rfl) rfl #[.int .u8 (bt a0 0)] rfl (am.trans (by rfl)) ?_; (with_reducible refine (lex_digit.calls (bt a0 0) false _ A14.out).mono ?_); rintro e w' ⟨rfl, ⟨nd, rfl⟩⟩; refine ⟨_, rfl, ?_⟩) | ((with_reducible refine gate_callee (f := 83) rfl ?_); refine goesL_ (some 67) rfl rfl Tryz.func83 (by kernel_rfl) rfl #[.string a0] rfl (am.trans (by rfl)) ?_; (with_reducible refine (lex_sign.calls a0 t311 _ A32.out).mono ?_); rintro e w34 ⟨rfl, hb⟩; refine ⟨_, rfl, ?_⟩; have n0_ := Aside0.mk (below_step (by repeat (first | (with_reducible first | exact HB.out | apply bw1 | apply bw2 | apply bw3) | exact HB.out)) hb); clear HB; have HB := n0_; clear n0_; (try clear hb); (try clear hb2); (try clear hk); (try clear hi)))
      go_ret3
      exact ⟨by first | rfl | (simp [*, errW_none, errW_some] <;> rfl), by repeat (first | (with_reducible first | exact HB.out | apply bw1 | apply bw2 | apply bw3) | exact HB.out)⟩
     ·rw [if_neg c33] at H
      have c33b0 : (t311 == 0) = false := beq_eq_false_iff_ne.mpr c33
      have c33b1 : (t311 != 0) = true := bne_iff_ne.mpr c33
      simp only [Option.some.injEq, Prod.mk.injEq] at H
      obtain ⟨rfl, rfl, rfl⟩ := H
      have p3 : 0 ≤ (0 : Int) := (by omega)
      have q3 : 0 < a0.size := (by have : (0 : Int) < (a0.size : Int) := of_decide_eq_true (by first | (with_reducible assumption) | assumption); omega)
      have hx3 : ∀ h : 0 < a0.size, ((a0[0]'h).toNat : Int) = bt a0 0 := bt_at a0 0
      clear p3
      have qi3 : (0 < (a0.size : Int)) = True := eq_true (of_decide_eq_true (by first | (with_reducible assumption) | assumption))
      replace q3 := eq_true q3
      go_enter Tryz.func61, Tryz.ntmps61
      go_wp2_with (first | ((with_reducible refine gate_callee (f := 77) rfl ?_); refine goesL_ (some 17) rfl rfl Tryz.func77 (by kernel_rfl) rfl #[.int .u8 (bt a0 0)] rfl (am.trans (by rfl)) ?_; (with_reducible refine (lex_letter.calls (bt a0 0) false _ A4.out).mono ?_); rintro e w' ⟨rfl, ⟨nd, rfl⟩⟩; refine ⟨_, rfl, ?_⟩) | ((with_reducible refine gate_callee (f := 80) rfl ?_); refine goesL_ (some 30) rfl rfl Tryz.func80 (by kernel_rfl) rfl #[.int .u8 (bt a0 0)] rfl (am.trans (by rfl)) ?_; (with_reducible refine (lex_digit.calls (bt a0 0) false _ A14.out).mono ?_); rintro e w' ⟨rfl, ⟨nd, rfl⟩⟩; refine ⟨_, rfl, ?_⟩) | ((with_reducible refine gate_callee (f := 83) rfl ?_); refine goesL_ (some 67) rfl rfl Tryz.func83 (by kernel_rfl) rfl #[.string a0] rfl (am.trans (by rfl)) ?_; (with_reducible refine (lex_sign.calls a0 t311 _ A32.out).mono ?_); rintro e w35 ⟨rfl, hb⟩; refine ⟨_, rfl, ?_⟩; have n0_ := Aside0.mk (below_step (by repeat (first | (with_reducible first | exact HB.out | apply bw1 | apply bw2 | apply bw3) | exact HB.out)) hb); clear HB; have HB := n0_; clear n0_; (try clear hb); (try clear hb2); (try clear hk); (try clear hi)))
      go_ret3
      exact ⟨by first | rfl | (simp [*, errW_none, errW_some] <;> rfl), by repeat (first | (with_reducible first | exact HB.out | apply bw1 | apply bw2 | apply bw3) | exact HB.out)⟩
 ·rw [if_neg c2] at H
  exact absurd H (by simp)
set_option maxHeartbeats 8000000 in
set_option maxRecDepth 100000 in
theorem lex_gap.calls (k : Nat) (a0 : ByteArray) (a1 : Int) (r : Int) (w : World) (h : lex_gap.f k a0 a1 = some r) :
  Calls Tryz.prog 67 #[.string a0, .int .i64 a1] w fun e w' => e = .returned (.int .i64 r) ∧ Drawn0 w w' := by
 have H : (lex_gap.l0 k a0 a1) = some r := h
 clear h
 have H' := Aside0.mk H
 clear H
 go_enter Tryz.func67, Tryz.ntmps67
 go_wp2
 go_loopg [1] k (fun kq v1 w' => ∃ (x1_1 : Int), v1 = .int .i64 x1_1 ∧ Aside0 (lex_gap.l0 kq a0 x1_1 = some r) ∧ Aside0 (kq ≤ k) ∧ Drawn0 w w')
 case atStart => exact ⟨(a1), (by first | rfl | (simp; done) | (simp [*]; done)), H', ⟨Nat.le_refl _⟩, by repeat (first | exact Drawn0.refl _ | apply Drawn0.step)⟩
 case round =>
  clear H'
  try clear p2
  obtain ⟨x1_1, rfl, HA, HK1, ⟨m1, rfl⟩⟩ := hrel
  cases gk with
  | zero => exact absurd HA.out (by simp [lex_gap.l0])
  | succ k1 =>
   have H := HA.out
   clear HA
   simp only [lex_gap.l0] at H
   by_cases c3 : x1_1 < (a0.size : Int)
   ·rw [if_pos c3] at H
    have c3b0 : decide (x1_1 < (a0.size : Int)) = true := decide_eq_true c3
    clear c3
    by_cases c4 : 0 ≤ x1_1
    ·rw [if_pos c4] at H
     have c4b0 : decide (0 ≤ x1_1) = true := decide_eq_true c4
     clear c4
     replace H := Option.bind_eq_some_iff.mp H
     obtain ⟨t312, A60, H⟩ := H
     replace H : (if t312 ≥ 0 then (lex_gap.l0 k1 a0 (wrap64 (x1_1 + 1))) else (if x1_1 ≤ (a0.size : Int) then ((strings_HasPrefix.f (a0.extract (x1_1 : Int).toNat a0.size) (⟨#[47, 47]⟩ : ByteArray)).bind fun t313 => (if t313 = true then ((lex_run.f a0 x1_1 95).bind fun t314 => (lex_gap.l0 k1 a0 (wrap64 (x1_1 + t314)))) else (some x1_1))) else (none))) = some r := H
     have A6 := Aside0.mk A60
     clear A60
     by_cases c7 : t312 ≥ 0
     ·rw [if_pos c7] at H
      have c7b0 : decide (0 ≤ t312) = true := decide_eq_true c7
      clear c7
      have H' := Aside0.mk H
      clear H
      have p5 : 0 ≤ (x1_1 : Int) := of_decide_eq_true (by first | (with_reducible assumption) | assumption)
      have q5 : x1_1 < (a0.size : Int) := of_decide_eq_true (by first | (with_reducible assumption) | assumption)
      have hx5 := bt_at a0 x1_1
      replace p5 := eq_true p5
      replace q5 := eq_true q5
      go_wp2_with (first | ((with_reducible refine gate_callee (f := 94) rfl ?_); refine goesL_ (some 14) rfl rfl Tryz.func94 (by kernel_rfl) rfl #[.string (⟨#[32, 9, 10, 13]⟩ : ByteArray), .int .u8 (bt a0 x1_1)] rfl (am.trans (by rfl)) ?_; (with_reducible refine (strings_IndexByte.calls (⟨#[32, 9, 10, 13]⟩ : ByteArray) (bt a0 x1_1) t312 _ A6.out).mono ?_); rintro e w' ⟨rfl, ⟨nd, rfl⟩⟩; refine ⟨_, rfl, ?_⟩))
      go_roundg k1
      case measure => have := HK1.out; omega
      case rel => exact ⟨(wrap64 (x1_1 + 1)), (by first | rfl | (simp; done) | (simp [*]; done)), H', ⟨by have := HK1.out; omega⟩, by repeat (first | exact Drawn0.refl _ | apply Drawn0.step)⟩
     ·rw [if_neg c7] at H
      have c7b0 : decide (0 ≤ t312) = false := decide_eq_false c7
      clear c7
      have c8b0 := eq_true (of_decide_eq_true (by first | (with_reducible assumption) | assumption) : 0 ≤ x1_1)
      by_cases c9 : x1_1 ≤ (a0.size : Int)
      ·rw [if_pos c9] at H
       have c9b0 := eq_true c9
       have c9b1 : decide (x1_1 ≤ (a0.size : Int)) = true := decide_eq_true c9
       clear c9
       replace H := Option.bind_eq_some_iff.mp H
       obtain ⟨t313, A100, H⟩ := H
       replace H : (if t313 = true then ((lex_run.f a0 x1_1 95).bind fun t314 => (lex_gap.l0 k1 a0 (wrap64 (x1_1 + t314)))) else (some x1_1)) = some r := H
       have A10 := Aside0.mk A100
       clear A100
       by_cases c11 : t313 = true
       ·subst c11
        have H1 : ((lex_run.f a0 x1_1 95).bind fun t314 => (lex_gap.l0 k1 a0 (wrap64 (x1_1 + t314)))) = some r := by rw [if_pos rfl] at H; exact H
        clear H
        have H := H1
        clear H1
        replace H := Option.bind_eq_some_iff.mp H
        obtain ⟨t314, A120, H⟩ := H
        replace H : (lex_gap.l0 k1 a0 (wrap64 (x1_1 + t314))) = some r := H
        have A12 := Aside0.mk A120
        clear A120
        have H' := Aside0.mk H
        clear H
        have p5 : 0 ≤ (x1_1 : Int) := of_decide_eq_true (by first | (with_reducible assumption) | assumption)
        have q5 : x1_1 < (a0.size : Int) := of_decide_eq_true (by first | (with_reducible assumption) | assumption)
        have hx5 := bt_at a0 x1_1
        replace p5 := eq_true p5
        replace q5 := eq_true q5
        go_wp2_with (first | ((with_reducible refine gate_callee (f := 94) rfl ?_); refine goesL_ (some 14) rfl rfl Tryz.func94 (by kernel_rfl) rfl #[.string (⟨#[32, 9, 10, 13]⟩ : ByteArray), .int .u8 (bt a0 x1_1)] rfl (am.trans (by rfl)) ?_; (with_reducible refine (strings_IndexByte.calls (⟨#[32, 9, 10, 13]⟩ : ByteArray) (bt a0 x1_1) t312 _ A6.out).mono ?_); rintro e w' ⟨rfl, ⟨nd, rfl⟩⟩; refine ⟨_, rfl, ?_⟩) | ((with_reducible refine gate_callee (f := 66) rfl ?_); refine goesL_ (some 22) rfl rfl Tryz.func66 (by kernel_rfl) rfl #[.string (a0.extract (x1_1 : Int).toNat a0.size), .string (⟨#[47, 47]⟩ : ByteArray)] rfl (am.trans (by rfl)) ?_; (with_reducible refine (strings_HasPrefix.calls (a0.extract (x1_1 : Int).toNat a0.size) (⟨#[47, 47]⟩ : ByteArray) true _ A10.out).mono ?_); rintro e w' ⟨rfl, ⟨nd, rfl⟩⟩; refine ⟨_, rfl, ?_⟩) | ((with_reducible refine gate_callee (f := 78) rfl ?_); refine goesL_ (some 26) rfl rfl Tryz.func78 (by kernel_rfl) rfl #[.string a0, .int .i64 x1_1, .func (.func 95) #[] #[]] rfl (am.trans (by rfl)) ?_; (with_reducible refine (lex_run.calls a0 x1_1 95 t314 _ A12.out).mono ?_); rintro e w' ⟨rfl, ⟨nd, rfl⟩⟩; refine ⟨_, rfl, ?_⟩))
        go_roundg k1
        case measure => have := HK1.out; omega
        case rel => exact ⟨(wrap64 (x1_1 + t314)), (by first | rfl | (simp; done) | (simp [*]; done)), H', ⟨by have := HK1.out; omega⟩, by repeat (first | exact Drawn0.refl _ | apply Drawn0.step)⟩
       ·replace c11 := Bool.eq_false_iff.mpr c11
        subst c11
        have H1 : (some x1_1) = some r := by rw [if_neg (show ¬ (false = true) by decide)] at H; exact H
        clear H
        have H := H1
        clear H1
        obtain rfl := Option.some.inj H
        have p5 : 0 ≤ (x1_1 : Int) := of_decide_eq_true (by first | (with_reducible assumption) | assumption)
        have q5 : x1_1 < (a0.size : Int) := of_decide_eq_true (by first | (with_reducible assumption) | assumption)
        have hx5 := bt_at a0 x1_1
        replace p5 := eq_true p5
        replace q5 := eq_true q5
        go_wp2_with (first | ((with_reducible refine gate_callee (f := 94) rfl ?_); refine goesL_ (some 14) rfl rfl Tryz.func94 (by kernel_rfl) rfl #[.string (⟨#[32, 9, 10, 13]⟩ : ByteArray), .int .u8 (bt a0 x1_1)] rfl (am.trans (by rfl)) ?_; (with_reducible refine (strings_IndexByte.calls (⟨#[32, 9, 10, 13]⟩ : ByteArray) (bt a0 x1_1) t312 _ A6.out).mono ?_); rintro e w' ⟨rfl, ⟨nd, rfl⟩⟩; refine ⟨_, rfl, ?_⟩) | ((with_reducible refine gate_callee (f := 66) rfl ?_); refine goesL_ (some 22) rfl rfl Tryz.func66 (by kernel_rfl) rfl #[.string (a0.extract (x1_1 : Int).toNat a0.size), .string (⟨#[47, 47]⟩ : ByteArray)] rfl (am.trans (by rfl)) ?_; (with_reducible refine (strings_HasPrefix.calls (a0.extract (x1_1 : Int).toNat a0.size) (⟨#[47, 47]⟩ : ByteArray) false _ A10.out).mono ?_); rintro e w' ⟨rfl, ⟨nd, rfl⟩⟩; refine ⟨_, rfl, ?_⟩))
        go_ret
        exact ⟨by first | rfl | (simp; done) | (simp [*]; done), by repeat (first | exact Drawn0.refl _ | apply Drawn0.step)⟩
      ·rw [if_neg c9] at H
       exact absurd H (by simp)
    ·rw [if_neg c4] at H
     exact absurd H (by simp)
   ·rw [if_neg c3] at H
    have c3b0 : decide (x1_1 < (a0.size : Int)) = false := decide_eq_false c3
    clear c3
    obtain rfl := Option.some.inj H
    go_wp2
    go_ret
    exact ⟨by first | rfl | (simp; done) | (simp [*]; done), by repeat (first | exact Drawn0.refl _ | apply Drawn0.step)⟩
set_option maxHeartbeats 8000000 in
set_option maxRecDepth 100000 in
theorem lex_Next.calls (k : Nat) (a0 : ByteArray) (a1 : Int) (r1 : Int) (r2 : Int) (r3 : Int) (r4 : Int) (w : World) (h : lex_Next.f k a0 a1 = some (r1, r2, r3, r4)) (hI_ : Inv w) :
  Calls Tryz.prog 53 #[.string a0, .int .i64 a1] w fun e w' => e = .returned (.tuple #[.agg #[.int .i64 r1, .int .i64 r2, .int .i64 r3], .int .i64 r4]) ∧ Below w.heap.size w w' := by
 have HI := Aside0.mk hI_
 clear hI_
 have hu81 := Tryz.underlying81
 have HB := Aside0.mk (Below.refl w.heap.size w)
 have H : (if (a0.size : Int) > 65536 then (some (0, 0, 0, 3)) else (if a1 < 0 then (some (0, 0, 0, 1)) else (if a1 > (a0.size : Int) then (some (0, 0, 0, 1)) else ((lex_gap.f k a0 a1).bind fun t316 => (if t316 = (a0.size : Int) then (some (0, t316, t316, 0)) else (if 0 ≤ t316 then (if t316 ≤ (a0.size : Int) then ((lex_token.f k (a0.extract (t316 : Int).toNat a0.size)).bind fun bt317 => (if bt317.2.2 = 0 then (some (bt317.1, t316, wrap64 (t316 + bt317.2.1), 0)) else (some (0, t316, 0, bt317.2.2)))) else (none)) else (none))))))) = some (r1, r2, r3, r4) := h
 clear h
 by_cases c3 : (a0.size : Int) > 65536
 ·rw [if_pos c3] at H
  have c3b0 : decide (65536 < (a0.size : Int)) = true := decide_eq_true c3
  have c3b1 : decide (65536 < a0.size) = true := decide_eq_true (by omega)
  clear c3
  simp only [Option.some.injEq, Prod.mk.injEq] at H
  obtain ⟨rfl, rfl, rfl, rfl⟩ := H
  go_enter Tryz.func53, Tryz.ntmps53
  go_wp2_with (first | ((with_reducible refine gate_dst (N := 4) rfl ?_); (try (refine gate_guard (by rfl) ?_; dsimp only)); refine box_event ?hg (N := 4) ?hd (cs := #[.int .i64 0, .int .i64 0, .int .i64 0]) (t := 81) ?hr ?_; (case hd => rfl); (case hg => rfl); (case hr => first | (go_simp; done) | (go_simp; rfl)); intro gb315 hg w4 hbox hb; have n0_ := Aside0.mk (below_step (by repeat (first | (with_reducible first | exact HB.out | apply bw1 | apply bw2 | apply bw3) | exact HB.out)) hb); have n1_ := Aside0.mk (hbox); have n2_ := Aside0.mk ((by rw [hg]; exact (below_size (by repeat (first | (with_reducible first | exact HB.out | apply bw1 | apply bw2 | apply bw3) | exact HB.out))) : w.heap.size ≤ gb315)); have n3_ := Aside0.mk (n2_.out); clear HB; have HB := n0_; have BK315 := n1_; have GW315 := n2_; have GE315 := n3_; clear n0_ n1_ n2_ n3_; clear hb hbox hg; have hcz5_0 : w4.cell? ⟨gb315, 0, none⟩ = some (.int .i64 0) := (blk_cell BK315.out 0).trans rfl; have hcz5_1 : w4.cell? ⟨gb315, 1, none⟩ = some (.int .i64 0) := (blk_cell BK315.out 1).trans rfl; have hcz5_2 : w4.cell? ⟨gb315, 2, none⟩ = some (.int .i64 0) := (blk_cell BK315.out 2).trans rfl; have hfz5_0 := blk_frozen BK315.out 0; have hfz5_1 := blk_frozen BK315.out 1; have hfz5_2 := blk_frozen BK315.out 2))
  refine bodyPost_ret (results_ct rfl _ _ gb315 81 #[.int .i64 0, .int .i64 0, .int .i64 0] (0, 0) _ rfl (by (with_reducible repeat (first | apply bd1 | apply bd2 | apply bd3)); refine blk_put (cs := #[.int .i64 0, .int .i64 0, .int .i64 0]) ?_ 2 _ rfl; (with_reducible repeat (first | apply bd1 | apply bd2 | apply bd3)); refine blk_put (cs := #[.int .i64 0, .int .i64 0, .int .i64 0]) ?_ 1 _ rfl; (with_reducible repeat (first | apply bd1 | apply bd2 | apply bd3)); refine blk_put (cs := #[.int .i64 0, .int .i64 0, .int .i64 0]) ?_ 0 _ rfl; (with_reducible repeat (first | apply bd1 | apply bd2 | apply bd3)); exact BK315.out) Tryz.underlying81 rfl (by kernel_rfl)) rfl ?_
  exact ⟨by first | rfl | (simp [*, errW_none, errW_some] <;> rfl), by repeat (first | (with_reducible first | exact HB.out | apply bw1 | apply bw2 | apply bw3 | refine below_set ?_ GE315.out) | exact HB.out)⟩
 ·rw [if_neg c3] at H
  have c3b0 : decide (65536 < (a0.size : Int)) = false := decide_eq_false c3
  have c3b1 : decide (65536 < a0.size) = false := decide_eq_false (by omega)
  clear c3
  by_cases c6 : a1 < 0
  ·rw [if_pos c6] at H
   have c6b0 : decide (a1 < 0) = true := decide_eq_true c6
   clear c6
   simp only [Option.some.injEq, Prod.mk.injEq] at H
   obtain ⟨rfl, rfl, rfl, rfl⟩ := H
   go_enter Tryz.func53, Tryz.ntmps53
   go_wp2_with (first | ((with_reducible refine gate_dst (N := 4) rfl ?_); (try (refine gate_guard (by rfl) ?_; dsimp only)); refine box_event ?hg (N := 4) ?hd (cs := #[.int .i64 0, .int .i64 0, .int .i64 0]) (t := 81) ?hr ?_; (case hd => rfl); (case hg => rfl); (case hr => first | (go_simp; done) | (go_simp; rfl)); intro gb315 hg w7 hbox hb; have n0_ := Aside0.mk (below_step (by repeat (first | (with_reducible first | exact HB.out | apply bw1 | apply bw2 | apply bw3) | exact HB.out)) hb); have n1_ := Aside0.mk (hbox); have n2_ := Aside0.mk ((by rw [hg]; exact (below_size (by repeat (first | (with_reducible first | exact HB.out | apply bw1 | apply bw2 | apply bw3) | exact HB.out))) : w.heap.size ≤ gb315)); have n3_ := Aside0.mk (n2_.out); clear HB; have HB := n0_; have BK315 := n1_; have GW315 := n2_; have GE315 := n3_; clear n0_ n1_ n2_ n3_; clear hb hbox hg; have hcz8_0 : w7.cell? ⟨gb315, 0, none⟩ = some (.int .i64 0) := (blk_cell BK315.out 0).trans rfl; have hcz8_1 : w7.cell? ⟨gb315, 1, none⟩ = some (.int .i64 0) := (blk_cell BK315.out 1).trans rfl; have hcz8_2 : w7.cell? ⟨gb315, 2, none⟩ = some (.int .i64 0) := (blk_cell BK315.out 2).trans rfl; have hfz8_0 := blk_frozen BK315.out 0; have hfz8_1 := blk_frozen BK315.out 1; have hfz8_2 := blk_frozen BK315.out 2))
   refine bodyPost_ret (results_ct rfl _ _ gb315 81 #[.int .i64 0, .int .i64 0, .int .i64 0] (0, 0) _ rfl (by (with_reducible repeat (first | apply bd1 | apply bd2 | apply bd3)); refine blk_put (cs := #[.int .i64 0, .int .i64 0, .int .i64 0]) ?_ 2 _ rfl; (with_reducible repeat (first | apply bd1 | apply bd2 | apply bd3)); refine blk_put (cs := #[.int .i64 0, .int .i64 0, .int .i64 0]) ?_ 1 _ rfl; (with_reducible repeat (first | apply bd1 | apply bd2 | apply bd3)); refine blk_put (cs := #[.int .i64 0, .int .i64 0, .int .i64 0]) ?_ 0 _ rfl; (with_reducible repeat (first | apply bd1 | apply bd2 | apply bd3)); exact BK315.out) Tryz.underlying81 rfl (by kernel_rfl)) rfl ?_
   exact ⟨by first | rfl | (simp [*, errW_none, errW_some] <;> rfl), by repeat (first | (with_reducible first | exact HB.out | apply bw1 | apply bw2 | apply bw3 | refine below_set ?_ GE315.out) | exact HB.out)⟩
  ·rw [if_neg c6] at H
   have c6b0 : decide (a1 < 0) = false := decide_eq_false c6
   clear c6
   by_cases c9 : a1 > (a0.size : Int)
   ·rw [if_pos c9] at H
    have c9b0 : decide ((a0.size : Int) < a1) = true := decide_eq_true c9
    clear c9
    simp only [Option.some.injEq, Prod.mk.injEq] at H
    obtain ⟨rfl, rfl, rfl, rfl⟩ := H
    go_enter Tryz.func53, Tryz.ntmps53
    go_wp2_with (first | ((with_reducible refine gate_dst (N := 4) rfl ?_); (try (refine gate_guard (by rfl) ?_; dsimp only)); refine box_event ?hg (N := 4) ?hd (cs := #[.int .i64 0, .int .i64 0, .int .i64 0]) (t := 81) ?hr ?_; (case hd => rfl); (case hg => rfl); (case hr => first | (go_simp; done) | (go_simp; rfl)); intro gb315 hg w10 hbox hb; have n0_ := Aside0.mk (below_step (by repeat (first | (with_reducible first | exact HB.out | apply bw1 | apply bw2 | apply bw3) | exact HB.out)) hb); have n1_ := Aside0.mk (hbox); have n2_ := Aside0.mk ((by rw [hg]; exact (below_size (by repeat (first | (with_reducible first | exact HB.out | apply bw1 | apply bw2 | apply bw3) | exact HB.out))) : w.heap.size ≤ gb315)); have n3_ := Aside0.mk (n2_.out); clear HB; have HB := n0_; have BK315 := n1_; have GW315 := n2_; have GE315 := n3_; clear n0_ n1_ n2_ n3_; clear hb hbox hg; have hcz11_0 : w10.cell? ⟨gb315, 0, none⟩ = some (.int .i64 0) := (blk_cell BK315.out 0).trans rfl; have hcz11_1 : w10.cell? ⟨gb315, 1, none⟩ = some (.int .i64 0) := (blk_cell BK315.out 1).trans rfl; have hcz11_2 : w10.cell? ⟨gb315, 2, none⟩ = some (.int .i64 0) := (blk_cell BK315.out 2).trans rfl; have hfz11_0 := blk_frozen BK315.out 0; have hfz11_1 := blk_frozen BK315.out 1; have hfz11_2 := blk_frozen BK315.out 2))
    refine bodyPost_ret (results_ct rfl _ _ gb315 81 #[.int .i64 0, .int .i64 0, .int .i64 0] (0, 0) _ rfl (by (with_reducible repeat (first | apply bd1 | apply bd2 | apply bd3)); refine blk_put (cs := #[.int .i64 0, .int .i64 0, .int .i64 0]) ?_ 2 _ rfl; (with_reducible repeat (first | apply bd1 | apply bd2 | apply bd3)); refine blk_put (cs := #[.int .i64 0, .int .i64 0, .int .i64 0]) ?_ 1 _ rfl; (with_reducible repeat (first | apply bd1 | apply bd2 | apply bd3)); refine blk_put (cs := #[.int .i64 0, .int .i64 0, .int .i64 0]) ?_ 0 _ rfl; (with_reducible repeat (first | apply bd1 | apply bd2 | apply bd3)); exact BK315.out) Tryz.underlying81 rfl (by kernel_rfl)) rfl ?_
    exact ⟨by first | rfl | (simp [*, errW_none, errW_some] <;> rfl), by repeat (first | (with_reducible first | exact HB.out | apply bw1 | apply bw2 | apply bw3 | refine below_set ?_ GE315.out) | exact HB.out)⟩
   ·rw [if_neg c9] at H
    have c9b0 : decide ((a0.size : Int) < a1) = false := decide_eq_false c9
    clear c9
    replace H := Option.bind_eq_some_iff.mp H
    obtain ⟨t316, A120, H⟩ := H
    replace H : (if t316 = (a0.size : Int) then (some (0, t316, t316, 0)) else (if 0 ≤ t316 then (if t316 ≤ (a0.size : Int) then ((lex_token.f k (a0.extract (t316 : Int).toNat a0.size)).bind fun bt317 => (if bt317.2.2 = 0 then (some (bt317.1, t316, wrap64 (t316 + bt317.2.1), 0)) else (some (0, t316, 0, bt317.2.2)))) else (none)) else (none))) = some (r1, r2, r3, r4) := H
    have A12 := Aside0.mk A120
    clear A120
    by_cases c13 : t316 = (a0.size : Int)
    ·rw [if_pos c13] at H
     have c13b0 : (t316 == (a0.size : Int)) = true := beq_iff_eq.mpr c13
     have c13b1 : (t316 != (a0.size : Int)) = false := bne_eq_false_iff_eq.mpr c13
     clear c13
     simp only [Option.some.injEq, Prod.mk.injEq] at H
     obtain ⟨rfl, rfl, rfl, rfl⟩ := H
     go_enter Tryz.func53, Tryz.ntmps53
     go_wp2_with (first | ((with_reducible refine gate_dst (N := 4) rfl ?_); (try (refine gate_guard (by rfl) ?_; dsimp only)); refine box_event ?hg (N := 4) ?hd (cs := #[.int .i64 0, .int .i64 0, .int .i64 0]) (t := 81) ?hr ?_; (case hd => rfl); (case hg => rfl); (case hr => first | (go_simp; done) | (go_simp; rfl)); intro gb315 hg w14 hbox hb; have n0_ := Aside0.mk (below_step (by repeat (first | (with_reducible first | exact HB.out | apply bw1 | apply bw2 | apply bw3) | exact HB.out)) hb); have n1_ := Aside0.mk (hbox); have n2_ := Aside0.mk ((by rw [hg]; exact (below_size (by repeat (first | (with_reducible first | exact HB.out | apply bw1 | apply bw2 | apply bw3) | exact HB.out))) : w.heap.size ≤ gb315)); have n3_ := Aside0.mk (n2_.out); clear HB; have HB := n0_; have BK315 := n1_; have GW315 := n2_; have GE315 := n3_; clear n0_ n1_ n2_ n3_; clear hb hbox hg) | ((with_reducible refine gate_callee (f := 67) rfl ?_); refine goesL_ (some 26) rfl rfl Tryz.func67 (by kernel_rfl) rfl #[.string a0, .int .i64 a1] rfl (am.trans (by rfl)) ?_; (with_reducible refine (lex_gap.calls k a0 a1 t316 _ A12.out).mono ?_); rintro e w' ⟨rfl, ⟨nd, rfl⟩⟩; refine ⟨_, rfl, ?_⟩; (try (rw [drewN_self w14]; generalize hq_ : World.drewN w14 _ = w14; have n0_ : Aside0 (w14.heap[gb315]? = some (.cells #[.int .i64 0, .int .i64 0, .int .i64 0] 81 (0, 0))) := ⟨by rw [← hq_]; exact (by (with_reducible repeat (first | apply bd1 | apply bd2 | apply bd3)); exact BK315.out)⟩; have n1_ : Aside0 (Below w.heap.size w w14) := ⟨by rw [← hq_]; exact (by repeat (first | (with_reducible first | exact HB.out | apply bw1 | apply bw2 | apply bw3 | refine below_set ?_ GE315.out) | exact HB.out))⟩; clear BK315 HB hq_; have BK315 := n0_; have HB := n1_; clear n0_ n1_)); have hcz15_0 : w14.cell? ⟨gb315, 0, none⟩ = some (.int .i64 0) := (blk_cell BK315.out 0).trans rfl; have hcz15_1 : w14.cell? ⟨gb315, 1, none⟩ = some (.int .i64 0) := (blk_cell BK315.out 1).trans rfl; have hcz15_2 : w14.cell? ⟨gb315, 2, none⟩ = some (.int .i64 0) := (blk_cell BK315.out 2).trans rfl; have hfz15_0 := blk_frozen BK315.out 0; have hfz15_1 := blk_frozen BK315.out 1; have hfz15_2 := blk_frozen BK315.out 2))
     refine bodyPost_ret (results_ct rfl _ _ gb315 81 #[.int .i64 0, .int .i64 t316, .int .i64 t316] (0, 0) _ rfl (by (with_reducible repeat (first | apply bd1 | apply bd2 | apply bd3)); refine blk_put (cs := #[.int .i64 0, .int .i64 t316, .int .i64 0]) ?_ 2 _ rfl; (with_reducible repeat (first | apply bd1 | apply bd2 | apply bd3)); refine blk_put (cs := #[.int .i64 0, .int .i64 0, .int .i64 0]) ?_ 1 _ rfl; (with_reducible repeat (first | apply bd1 | apply bd2 | apply bd3)); refine blk_put (cs := #[.int .i64 0, .int .i64 0, .int .i64 0]) ?_ 0 _ rfl; (with_reducible repeat (first | apply bd1 | apply bd2 | apply bd3)); exact BK315.out) Tryz.underlying81 rfl (by kernel_rfl)) rfl ?_
     exact ⟨by first | rfl | (simp [*, errW_none, errW_some] <;> rfl), by repeat (first | (with_reducible first | exact HB.out | apply bw1 | apply bw2 | apply bw3 | refine below_set ?_ GE315.out) | exact HB.out)⟩
    ·rw [if_neg c13] at H
     have c13b0 : (t316 == (a0.size : Int)) = false := beq_eq_false_iff_ne.mpr c13
     have c13b1 : (t316 != (a0.size : Int)) = true := bne_iff_ne.mpr c13
     by_cases c16 : 0 ≤ t316
     ·rw [if_pos c16] at H
      have c16b0 := eq_true c16
      have c16b1 : decide (0 ≤ t316) = true := decide_eq_true c16
      clear c16
      by_cases c17 : t316 ≤ (a0.size : Int)
      ·rw [if_pos c17] at H
       have c17b0 := eq_true c17
       have c17b1 : decide (t316 ≤ (a0.size : Int)) = true := decide_eq_true c17
       clear c17
       replace H := Option.bind_eq_some_iff.mp H
       obtain ⟨⟨t317, t318, t319⟩, A180, H⟩ := H
       replace H : (if t319 = 0 then (some (t317, t316, wrap64 (t316 + t318), 0)) else (some (0, t316, 0, t319))) = some (r1, r2, r3, r4) := H
       have A18 := Aside0.mk A180
       clear A180
       by_cases c19 : t319 = 0
       ·rw [if_pos c19] at H
        have c19b0 : (t319 == 0) = true := beq_iff_eq.mpr c19
        have c19b1 : (t319 != 0) = false := bne_eq_false_iff_eq.mpr c19
        clear c19
        simp only [Option.some.injEq, Prod.mk.injEq] at H
        obtain ⟨rfl, rfl, rfl, rfl⟩ := H
        go_enter Tryz.func53, Tryz.ntmps53
        go_wp2_with (first | ((with_reducible refine gate_dst (N := 4) rfl ?_); (try (refine gate_guard (by rfl) ?_; dsimp only)); refine box_event ?hg (N := 4) ?hd (cs := #[.int .i64 0, .int .i64 0, .int .i64 0]) (t := 81) ?hr ?_; (case hd => rfl); (case hg => rfl); (case hr => first | (go_simp; done) | (go_simp; rfl)); intro gb315 hg w20 hbox hb; have n0_ := Aside0.mk (below_step (by repeat (first | (with_reducible first | exact HB.out | apply bw1 | apply bw2 | apply bw3) | exact HB.out)) hb); have n1_ := Aside0.mk (hbox); have n2_ := Aside0.mk ((by rw [hg]; exact (below_size (by repeat (first | (with_reducible first | exact HB.out | apply bw1 | apply bw2 | apply bw3) | exact HB.out))) : w.heap.size ≤ gb315)); have n3_ := Aside0.mk (n2_.out); clear HB; have HB := n0_; have BK315 := n1_; have GW315 := n2_; have GE315 := n3_; clear n0_ n1_ n2_ n3_; clear hb hbox hg) | ((with_reducible refine gate_callee (f := 67) rfl ?_); refine goesL_ (some 26) rfl rfl Tryz.func67 (by kernel_rfl) rfl #[.string a0, .int .i64 a1] rfl (am.trans (by rfl)) ?_; (with_reducible refine (lex_gap.calls k a0 a1 t316 _ A12.out).mono ?_); rintro e w' ⟨rfl, ⟨nd, rfl⟩⟩; refine ⟨_, rfl, ?_⟩; (try (rw [drewN_self w20]; generalize hq_ : World.drewN w20 _ = w20; have n0_ : Aside0 (w20.heap[gb315]? = some (.cells #[.int .i64 0, .int .i64 0, .int .i64 0] 81 (0, 0))) := ⟨by rw [← hq_]; exact (by (with_reducible repeat (first | apply bd1 | apply bd2 | apply bd3)); exact BK315.out)⟩; have n1_ : Aside0 (Below w.heap.size w w20) := ⟨by rw [← hq_]; exact (by repeat (first | (with_reducible first | exact HB.out | apply bw1 | apply bw2 | apply bw3 | refine below_set ?_ GE315.out) | exact HB.out))⟩; clear BK315 HB hq_; have BK315 := n0_; have HB := n1_; clear n0_ n1_))) | ((with_reducible refine gate_callee (f := 61) rfl ?_); refine goesL_ (some 38) rfl rfl Tryz.func61 (by kernel_rfl) rfl #[.string (a0.extract (t316 : Int).toNat a0.size)] rfl (am.trans (by rfl)) ?_; (with_reducible refine (lex_token.calls k (a0.extract (t316 : Int).toNat a0.size) t317 t318 t319 _ A18.out (by first | exact HI.out | exact Inv.below HI.out (by repeat (first | (with_reducible first | exact HB.out | apply bw1 | apply bw2 | apply bw3 | refine below_set ?_ GE315.out) | exact HB.out)) | exact Inv.drawn HI.out (by repeat (first | exact Drawn0.refl _ | apply Drawn0.step)))).mono ?_); rintro e w21 ⟨rfl, hb⟩; refine ⟨_, rfl, ?_⟩; have n0_ := Aside0.mk (blk_below (g := gb315) (o := .cells #[.int .i64 0, .int .i64 0, .int .i64 0] 81 (0, 0)) (by (with_reducible repeat (first | apply bd1 | apply bd2 | apply bd3)); exact BK315.out) hb); have n1_ := Aside0.mk (below_step (by repeat (first | (with_reducible first | exact HB.out | apply bw1 | apply bw2 | apply bw3 | refine below_set ?_ GE315.out) | exact HB.out)) hb); clear BK315 HB; have BK315 := n0_; have HB := n1_; clear n0_ n1_; (try clear hb); (try clear hb2); (try clear hk); (try clear hi); have hcz22_0 : w21.cell? ⟨gb315, 0, none⟩ = some (.int .i64 0) := (blk_cell BK315.out 0).trans rfl; have hcz22_1 : w21.cell? ⟨gb315, 1, none⟩ = some (.int .i64 0) := (blk_cell BK315.out 1).trans rfl; have hcz22_2 : w21.cell? ⟨gb315, 2, none⟩ = some (.int .i64 0) := (blk_cell BK315.out 2).trans rfl; have hfz22_0 := blk_frozen BK315.out 0; have hfz22_1 := blk_frozen BK315.out 1; have hfz22_2 := blk_frozen BK315.out 2))
        refine bodyPost_ret (results_ct rfl _ _ gb315 81 #[.int .i64 t317, .int .i64 t316, .int .i64 (wrap64 (t316 + t318))] (0, 0) _ rfl (by (with_reducible repeat (first | apply bd1 | apply bd2 | apply bd3)); refine blk_put (cs := #[.int .i64 t317, .int .i64 t316, .int .i64 0]) ?_ 2 _ rfl; (with_reducible repeat (first | apply bd1 | apply bd2 | apply bd3)); refine blk_put (cs := #[.int .i64 t317, .int .i64 0, .int .i64 0]) ?_ 1 _ rfl; (with_reducible repeat (first | apply bd1 | apply bd2 | apply bd3)); refine blk_put (cs := #[.int .i64 0, .int .i64 0, .int .i64 0]) ?_ 0 _ rfl; (with_reducible repeat (first | apply bd1 | apply bd2 | apply bd3)); exact BK315.out) Tryz.underlying81 rfl (by kernel_rfl)) rfl ?_
        exact ⟨by first | rfl | (simp [*, errW_none, errW_some] <;> rfl), by repeat (first | (with_reducible first | exact HB.out | apply bw1 | apply bw2 | apply bw3 | refine below_set ?_ GE315.out) | exact HB.out)⟩
       ·rw [if_neg c19] at H
        have c19b0 : (t319 == 0) = false := beq_eq_false_iff_ne.mpr c19
        have c19b1 : (t319 != 0) = true := bne_iff_ne.mpr c19
        simp only [Option.some.injEq, Prod.mk.injEq] at H
        obtain ⟨rfl, rfl, rfl, rfl⟩ := H
        go_enter Tryz.func53, Tryz.ntmps53
        go_wp2_with (first | ((with_reducible refine gate_dst (N := 4) rfl ?_); (try (refine gate_guard (by rfl) ?_; dsimp only)); refine box_event ?hg (N := 4) ?hd (cs := #[.int .i64 0, .int .i64 0, .int .i64 0]) (t := 81) ?hr ?_; (case hd => rfl); (case hg => rfl); (case hr => first | (go_simp; done) | (go_simp; rfl)); intro gb315 hg w23 hbox hb; have n0_ := Aside0.mk (below_step (by repeat (first | (with_reducible first | exact HB.out | apply bw1 | apply bw2 | apply bw3) | exact HB.out)) hb); have n1_ := Aside0.mk (hbox); have n2_ := Aside0.mk ((by rw [hg]; exact (below_size (by repeat (first | (with_reducible first | exact HB.out | apply bw1 | apply bw2 | apply bw3) | exact HB.out))) : w.heap.size ≤ gb315)); have n3_ := Aside0.mk (n2_.out); clear HB; have HB := n0_; have BK315 := n1_; have GW315 := n2_; have GE315 := n3_; clear n0_ n1_ n2_ n3_; clear hb hbox hg) | ((with_reducible refine gate_callee (f := 67) rfl ?_); refine goesL_ (some 26) rfl rfl Tryz.func67 (by kernel_rfl) rfl #[.string a0, .int .i64 a1] rfl (am.trans (by rfl)) ?_; (with_reducible refine (lex_gap.calls k a0 a1 t316 _ A12.out).mono ?_); rintro e w' ⟨rfl, ⟨nd, rfl⟩⟩; refine ⟨_, rfl, ?_⟩; (try (rw [drewN_self w23]; generalize hq_ : World.drewN w23 _ = w23; have n0_ : Aside0 (w23.heap[gb315]? = some (.cells #[.int .i64 0, .int .i64 0, .int .i64 0] 81 (0, 0))) := ⟨by rw [← hq_]; exact (by (with_reducible repeat (first | apply bd1 | apply bd2 | apply bd3)); exact BK315.out)⟩; have n1_ : Aside0 (Below w.heap.size w w23) := ⟨by rw [← hq_]; exact (by repeat (first | (with_reducible first | exact HB.out | apply bw1 | apply bw2 | apply bw3 | refine below_set ?_ GE315.out) | exact HB.out))⟩; clear BK315 HB hq_; have BK315 := n0_; have HB := n1_; clear n0_ n1_))) | ((with_reducible refine gate_callee (f := 61) rfl ?_); refine goesL_ (some 38) rfl rfl Tryz.func61 (by kernel_rfl) rfl #[.string (a0.extract (t316 : Int).toNat a0.size)] rfl (am.trans (by rfl)) ?_; (with_reducible refine (lex_token.calls k (a0.extract (t316 : Int).toNat a0.size) t317 t318 t319 _ A18.out (by first | exact HI.out | exact Inv.below HI.out (by repeat (first | (with_reducible first | exact HB.out | apply bw1 | apply bw2 | apply bw3 | refine below_set ?_ GE315.out) | exact HB.out)) | exact Inv.drawn HI.out (by repeat (first | exact Drawn0.refl _ | apply Drawn0.step)))).mono ?_); rintro e w24 ⟨rfl, hb⟩; refine ⟨_, rfl, ?_⟩; have n0_ := Aside0.mk (blk_below (g := gb315) (o := .cells #[.int .i64 0, .int .i64 0, .int .i64 0] 81 (0, 0)) (by (with_reducible repeat (first | apply bd1 | apply bd2 | apply bd3)); exact BK315.out) hb); have n1_ := Aside0.mk (below_step (by repeat (first | (with_reducible first | exact HB.out | apply bw1 | apply bw2 | apply bw3 | refine below_set ?_ GE315.out) | exact HB.out)) hb); clear BK315 HB; have BK315 := n0_; have HB := n1_; clear n0_ n1_; (try clear hb); (try clear hb2); (try clear hk); (try clear hi); have hcz25_0 : w24.cell? ⟨gb315, 0, none⟩ = some (.int .i64 0) := (blk_cell BK315.out 0).trans rfl; have hcz25_1 : w24.cell? ⟨gb315, 1, none⟩ = some (.int .i64 0) := (blk_cell BK315.out 1).trans rfl; have hcz25_2 : w24.cell? ⟨gb315, 2, none⟩ = some (.int .i64 0) := (blk_cell BK315.out 2).trans rfl; have hfz25_0 := blk_frozen BK315.out 0; have hfz25_1 := blk_frozen BK315.out 1; have hfz25_2 := blk_frozen BK315.out 2))
        refine bodyPost_ret (results_ct rfl _ _ gb315 81 #[.int .i64 0, .int .i64 t316, .int .i64 0] (0, 0) _ rfl (by (with_reducible repeat (first | apply bd1 | apply bd2 | apply bd3)); refine blk_put (cs := #[.int .i64 0, .int .i64 t316, .int .i64 0]) ?_ 2 _ rfl; (with_reducible repeat (first | apply bd1 | apply bd2 | apply bd3)); refine blk_put (cs := #[.int .i64 0, .int .i64 0, .int .i64 0]) ?_ 1 _ rfl; (with_reducible repeat (first | apply bd1 | apply bd2 | apply bd3)); refine blk_put (cs := #[.int .i64 0, .int .i64 0, .int .i64 0]) ?_ 0 _ rfl; (with_reducible repeat (first | apply bd1 | apply bd2 | apply bd3)); exact BK315.out) Tryz.underlying81 rfl (by kernel_rfl)) rfl ?_
        exact ⟨by first | rfl | (simp [*, errW_none, errW_some] <;> rfl), by repeat (first | (with_reducible first | exact HB.out | apply bw1 | apply bw2 | apply bw3 | refine below_set ?_ GE315.out) | exact HB.out)⟩
      ·rw [if_neg c17] at H
       exact absurd H (by simp)
     ·rw [if_neg c16] at H
      exact absurd H (by simp)
set_option maxHeartbeats 8000000 in
set_option maxRecDepth 100000 in
theorem lex_Text.calls (k : Nat) (a0 : ByteArray) (r1 : ByteArray) (r2 : Int) (w : World) (h : lex_Text.f k a0 = some (r1, r2)) :
  Calls Tryz.prog 54 #[.string a0] w fun e w' => e = .returned (.tuple #[.string r1, .int .i64 r2]) ∧ Below w.heap.size w w' := by
 have HB := Aside0.mk (Below.refl w.heap.size w)
 have H : ((lex_quoted.f k a0).bind fun bt320 => (if bt320.2 = 0 then (some ((⟨#[]⟩ : ByteArray), 122)) else (if bt320.2 = (a0.size : Int) then (some (bt320.1, 0)) else (some ((⟨#[]⟩ : ByteArray), 122))))) = some (r1, r2) := h
 clear h
 replace H := Option.bind_eq_some_iff.mp H
 obtain ⟨⟨t320, t321⟩, A20, H⟩ := H
 replace H : (if t321 = 0 then (some ((⟨#[]⟩ : ByteArray), 122)) else (if t321 = (a0.size : Int) then (some (t320, 0)) else (some ((⟨#[]⟩ : ByteArray), 122)))) = some (r1, r2) := H
 have A2 := Aside0.mk A20
 clear A20
 by_cases c3 : t321 = 0
 ·rw [if_pos c3] at H
  have c3b0 : (t321 == 0) = true := beq_iff_eq.mpr c3
  have c3b1 : (t321 != 0) = false := bne_eq_false_iff_eq.mpr c3
  clear c3
  simp only [Option.some.injEq, Prod.mk.injEq] at H
  obtain ⟨rfl, rfl⟩ := H
  go_enter Tryz.func54, Tryz.ntmps54
  go_wp2_with (first | ((with_reducible refine gate_callee (f := 68) rfl ?_); refine goesL_ (some 8) rfl rfl Tryz.func68 (by kernel_rfl) rfl #[.string a0] rfl (am.trans (by rfl)) ?_; (with_reducible refine (lex_quoted.calls k a0 t320 t321 _ A2.out).mono ?_); rintro e w4 ⟨rfl, hb⟩; refine ⟨_, rfl, ?_⟩; have n0_ := Aside0.mk (below_step (by repeat (first | (with_reducible first | exact HB.out | apply bw1 | apply bw2 | apply bw3) | exact HB.out)) hb); clear HB; have HB := n0_; clear n0_; (try clear hb); (try clear hb2); (try clear hk); (try clear hi)))
  go_ret2
  exact ⟨by first | rfl | (simp [*, errW_none, errW_some] <;> rfl), by repeat (first | (with_reducible first | exact HB.out | apply bw1 | apply bw2 | apply bw3) | exact HB.out)⟩
 ·rw [if_neg c3] at H
  have c3b0 : (t321 == 0) = false := beq_eq_false_iff_ne.mpr c3
  have c3b1 : (t321 != 0) = true := bne_iff_ne.mpr c3
  by_cases c5 : t321 = (a0.size : Int)
  ·rw [if_pos c5] at H
   have c5b0 : (t321 == (a0.size : Int)) = true := beq_iff_eq.mpr c5
   have c5b1 : (t321 != (a0.size : Int)) = false := bne_eq_false_iff_eq.mpr c5
   clear c5
   simp only [Option.some.injEq, Prod.mk.injEq] at H
   obtain ⟨rfl, rfl⟩ := H
   go_enter Tryz.func54, Tryz.ntmps54
   go_wp2_with (first | ((with_reducible refine gate_callee (f := 68) rfl ?_); refine goesL_ (some 8) rfl rfl Tryz.func68 (by kernel_rfl) rfl #[.string a0] rfl (am.trans (by rfl)) ?_; (with_reducible refine (lex_quoted.calls k a0 t320 t321 _ A2.out).mono ?_); rintro e w6 ⟨rfl, hb⟩; refine ⟨_, rfl, ?_⟩; have n0_ := Aside0.mk (below_step (by repeat (first | (with_reducible first | exact HB.out | apply bw1 | apply bw2 | apply bw3) | exact HB.out)) hb); clear HB; have HB := n0_; clear n0_; (try clear hb); (try clear hb2); (try clear hk); (try clear hi)))
   go_ret2
   exact ⟨by first | rfl | (simp [*, errW_none, errW_some] <;> rfl), by repeat (first | (with_reducible first | exact HB.out | apply bw1 | apply bw2 | apply bw3) | exact HB.out)⟩
  ·rw [if_neg c5] at H
   have c5b0 : (t321 == (a0.size : Int)) = false := beq_eq_false_iff_ne.mpr c5
   have c5b1 : (t321 != (a0.size : Int)) = true := bne_iff_ne.mpr c5
   simp only [Option.some.injEq, Prod.mk.injEq] at H
   obtain ⟨rfl, rfl⟩ := H
   go_enter Tryz.func54, Tryz.ntmps54
   go_wp2_with (first | ((with_reducible refine gate_callee (f := 68) rfl ?_); refine goesL_ (some 8) rfl rfl Tryz.func68 (by kernel_rfl) rfl #[.string a0] rfl (am.trans (by rfl)) ?_; (with_reducible refine (lex_quoted.calls k a0 t320 t321 _ A2.out).mono ?_); rintro e w7 ⟨rfl, hb⟩; refine ⟨_, rfl, ?_⟩; have n0_ := Aside0.mk (below_step (by repeat (first | (with_reducible first | exact HB.out | apply bw1 | apply bw2 | apply bw3) | exact HB.out)) hb); clear HB; have HB := n0_; clear n0_; (try clear hb); (try clear hb2); (try clear hk); (try clear hi)))
   go_ret2
   exact ⟨by first | rfl | (simp [*, errW_none, errW_some] <;> rfl), by repeat (first | (with_reducible first | exact HB.out | apply bw1 | apply bw2 | apply bw3) | exact HB.out)⟩
end Go.Proofs.YtifachjefpcgcaaGreatDoor.P
