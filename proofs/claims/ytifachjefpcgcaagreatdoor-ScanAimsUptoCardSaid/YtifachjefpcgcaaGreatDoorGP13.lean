import Derived.Test.YtifachjefpcgcaaGreatDoorGPD
import Derived.Test.YtifachjefpcgcaaGreatDoorGP12
namespace Go.Proofs.YtifachjefpcgcaaGreatDoor.P
open Go.RowKit Go.Proofs.YtifachjefpcgcaaGreatDoorW.PrintWords Go.Proofs.YtifachjefpcgcaaGreatDoorW.PrintLast Go.Proofs.YtifachjefpcgcaaGreatDoorW.PrintMore
attribute [local go_sem] max2_int min2_int max_two min_two max_three min_three max_four min_four
set_option linter.unusedVariables false
set_option linter.unusedSimpArgs false
set_option maxHeartbeats 8000000 in
set_option maxRecDepth 100000 in
theorem lex_quoted.calls (k : Nat) (a0 : ByteArray) (r1 : ByteArray) (r2 : Int) (w : World) (h : lex_quoted.f k a0 = some (r1, r2)) :
  Calls Tryz.prog 68 #[.string a0] w fun e w' => e = .returned (.tuple #[.string r1, .int .i64 r2]) ∧ Below w.heap.size w w' := by
 have HB := Aside0.mk (Below.refl w.heap.size w)
 have H : (if a0.toList = ([] : List UInt8) then (lex_quoted.j0 k a0 true) else (if 0 < (a0.size : Int) then (lex_quoted.j0 k a0 ((bt a0 0) != 34)) else (none))) = some (r1, r2) := h
 clear h
 have HC2 := Aside0.mk H
 clear H
 go_enter Tryz.func68, Tryz.ntmps68
 go_upto_region 1 with (fail)
 go_cut [14] (fun v14 wc => ∃ (kq : Nat) (x14_1 : Bool), v14 = .bool x14_1 ∧ Aside0 (lex_quoted.j0 kq a0 x14_1 = some (r1, r2)) ∧ Aside0 (kq ≤ k) ∧ Aside0 (Below w.heap.size w wc))
 case first =>
  have H := HC2.out
  clear HC2
  by_cases c3 : a0.toList = ([] : List UInt8)
  ·rw [if_pos c3] at H
   have c3b0 : (a0.toList == ([] : List UInt8)) = true := beq_iff_eq.mpr c3
   have c3b1 : (a0.toList != ([] : List UInt8)) = false := bne_eq_false_iff_eq.mpr c3
   have c3b2 : a0.toList.isEmpty = true := by simpa using c3
   clear c3
   (first | rw [c3b0] | rw [c3b2] | (simp only [i64_w, i32_w]; rw [c3b0]) | skip)
   have H' := Aside0.mk H
   clear H
   go_wp2
   go_meet
   case rel => exact ⟨_, (true), (by first | rfl | (simp; done) | (simp [*]; done)), H', ⟨by first | omega | exact Nat.le_refl _⟩, ⟨by repeat (first | (with_reducible first | exact HB.out | apply bw1 | apply bw2 | apply bw3) | exact HB.out)⟩⟩
  ·rw [if_neg c3] at H
   have c3b0 : (a0.toList == ([] : List UInt8)) = false := beq_eq_false_iff_ne.mpr c3
   have c3b1 : (a0.toList != ([] : List UInt8)) = true := bne_iff_ne.mpr c3
   have c3b2 : a0.toList.isEmpty = false := by simpa using c3
   (first | rw [c3b0] | rw [c3b2] | (simp only [i64_w, i32_w]; rw [c3b0]) | skip)
   by_cases c4 : 0 < (a0.size : Int)
   ·rw [if_pos c4] at H
    have c4b0 : decide (0 < (a0.size : Int)) = true := decide_eq_true c4
    have c4b1 : decide (0 < a0.size) = true := decide_eq_true (by omega)
    clear c4
    have H' := Aside0.mk H
    clear H
    have p5 : 0 ≤ (0 : Int) := (by omega)
    have q5 : 0 < a0.size := (by have : (0 : Int) < (a0.size : Int) := of_decide_eq_true (by first | (with_reducible assumption) | assumption); omega)
    have hx5 : ∀ h : 0 < a0.size, ((a0[0]'h).toNat : Int) = bt a0 0 := bt_at a0 0
    clear p5
    have qi5 : (0 < (a0.size : Int)) = True := eq_true (of_decide_eq_true (by first | (with_reducible assumption) | assumption))
    replace q5 := eq_true q5
    go_wp2
    go_meet
    case rel => exact ⟨_, (((bt a0 0) != 34)), (by first | rfl | (simp; done) | (simp [*]; done)), H', ⟨by first | omega | exact Nat.le_refl _⟩, ⟨by repeat (first | (with_reducible first | exact HB.out | apply bw1 | apply bw2 | apply bw3) | exact HB.out)⟩⟩
   ·rw [if_neg c4] at H
    exact absurd H (by simp)
 case rest =>
  clear HC2
  try clear p2
  try clear c3
  try clear c3b0
  try clear c3b1
  try clear c3b2
  try clear c4
  try clear c4b0
  try clear c4b1
  try clear p5
  try clear q5
  try clear hx5
  try clear qi5
  try clear p5
  try clear q5
  obtain ⟨kq, x14_1, rfl, HA, HJ1, HB⟩ := hcut
  cases kq with
  | zero => exact absurd HA.out (by simp [lex_quoted.j0])
  | succ kj1 =>
   have H := HA.out
   clear HA
   simp only [lex_quoted.j0] at H
   by_cases c6 : x14_1 = true
   ·subst c6
    have H1 : (some ((⟨#[]⟩ : ByteArray), 0)) = some (r1, r2) := by rw [if_pos rfl] at H; exact H
    clear H
    have H := H1
    clear H1
    simp only [Option.some.injEq, Prod.mk.injEq] at H
    obtain ⟨rfl, rfl⟩ := H
    go_wp2
    go_ret2
    exact ⟨by first | rfl | (simp [*, errW_none, errW_some] <;> rfl), by repeat (first | (with_reducible first | exact HB.out | apply bw1 | apply bw2 | apply bw3) | exact HB.out)⟩
   ·replace c6 := Bool.eq_false_iff.mpr c6
    subst c6
    have H1 : (lex_quoted.l0 kj1 a0 ([] : List Int) 1) = some (r1, r2) := by rw [if_neg (show ¬ (false = true) by decide)] at H; exact H
    clear H
    have H := H1
    clear H1
    have H' := Aside0.mk H
    clear H
    go_wp2
    go_loopg [4, 5] kj1 (fun kq v4 v5 w' => ∃ (x4_2 : List Int) (x5_2 : Int), v5 = .int .i64 x5_2 ∧ Aside0 (lex_quoted.l0 kq a0 x4_2 x5_2 = some (r1, r2)) ∧ Aside0 (kq ≤ kj1) ∧ Aside0 (Kd.R (Kd.int .u8) 5 w' w.heap.size (fun _ => True) v4 x4_2) ∧ Aside0 (Below w.heap.size w w'))
    case atStart => exact ⟨(([] : List Int)), (1), (by first | rfl | (simp; done) | (simp [*]; done)), H', ⟨Nat.le_refl _⟩, ⟨by first | exact Kd.R_nil _ _ _ _ _ | exact Kd.N_nil _ _ _ _ _ | exact Kd.V_nil _ _ _ _ _ | exact Kd.Q_nil _ _ _ _ _ | exact Kd.S_nil _ _ _ _ _⟩, ⟨by repeat (first | (with_reducible first | exact HB.out | apply bw1 | apply bw2 | apply bw3) | exact HB.out)⟩⟩
    case round =>
     clear H'
     try clear p2
     try clear c3
     try clear c3b0
     try clear c3b1
     try clear c3b2
     try clear c4
     try clear c4b0
     try clear c4b1
     try clear p5
     try clear q5
     try clear hx5
     try clear qi5
     try clear c6
     try clear p2
     try clear p5
     try clear q5
     obtain ⟨x4_2, x5_2, rfl, HA, HK2, HO_4, HB⟩ := hrel
     cases gk with
     | zero => exact absurd HA.out (by simp [lex_quoted.l0])
     | succ k2 =>
      have H := HA.out
      clear HA
      simp only [lex_quoted.l0] at H
      have HC7 := Aside0.mk H
      clear H
      go_upto_region 5 with (fail)
      go_cut [24] (fun v24 wc => ∃ (kq : Nat) (x24_6 : Bool), v24 = .bool x24_6 ∧ Aside0 (lex_quoted.j2 kq a0 x4_2 x5_2 x24_6 = some (r1, r2)) ∧ Aside0 (kq ≤ k2) ∧ Aside0 (Kd.R (Kd.int .u8) 5 wc w.heap.size (fun _ => True) u4 x4_2) ∧ Aside0 (Below w.heap.size w wc))
      case first =>
       have H := HC7.out
       clear HC7
       by_cases c8 : x5_2 < (a0.size : Int)
       ·rw [if_pos c8] at H
        have c8b0 : decide (x5_2 < (a0.size : Int)) = true := decide_eq_true c8
        clear c8
        (first | rw [c8b0] | (simp only [i64_w, i32_w]; rw [c8b0]) | skip)
        by_cases c9 : 0 ≤ x5_2
        ·rw [if_pos c9] at H
         have c9b0 : decide (0 ≤ x5_2) = true := decide_eq_true c9
         clear c9
         have H' := Aside0.mk H
         clear H
         have p10 : 0 ≤ (x5_2 : Int) := of_decide_eq_true (by first | (with_reducible assumption) | assumption)
         have q10 : x5_2 < (a0.size : Int) := of_decide_eq_true (by first | (with_reducible assumption) | assumption)
         have hx10 := bt_at a0 x5_2
         replace p10 := eq_true p10
         replace q10 := eq_true q10
         go_wp2
         go_meet
         case rel => exact ⟨_, (((bt a0 x5_2) != 34)), (by first | rfl | (simp; done) | (simp [*]; done)), H', ⟨by have := HJ1.out; have := HK2.out; first | omega | exact Nat.le_refl _⟩, ⟨by (with_reducible repeat (first | apply Kd.R_alloc | apply Kd.R_drewN | apply Kd.R_drew)); exact HO_4.out⟩, ⟨by repeat (first | (with_reducible first | exact HB.out | apply bw1 | apply bw2 | apply bw3) | exact HB.out)⟩⟩
        ·rw [if_neg c9] at H
         exact absurd H (by simp)
       ·rw [if_neg c8] at H
        have c8b0 : decide (x5_2 < (a0.size : Int)) = false := decide_eq_false c8
        clear c8
        (first | rw [c8b0] | (simp only [i64_w, i32_w]; rw [c8b0]) | skip)
        have H' := Aside0.mk H
        clear H
        go_wp2
        go_meet
        case rel => exact ⟨_, (false), (by first | rfl | (simp; done) | (simp [*]; done)), H', ⟨by have := HJ1.out; have := HK2.out; first | omega | exact Nat.le_refl _⟩, ⟨by (with_reducible repeat (first | apply Kd.R_alloc | apply Kd.R_drewN | apply Kd.R_drew)); exact HO_4.out⟩, ⟨by repeat (first | (with_reducible first | exact HB.out | apply bw1 | apply bw2 | apply bw3) | exact HB.out)⟩⟩
      case rest =>
       clear HC7
       try clear p1
       try clear q1
       try clear hx1
       try clear p2
       try clear c3
       try clear c3b0
       try clear c3b1
       try clear c3b2
       try clear c4
       try clear c4b0
       try clear c4b1
       try clear p5
       try clear q5
       try clear hx5
       try clear qi5
       try clear c6
       try clear c8
       try clear c8b0
       try clear c9
       try clear c9b0
       try clear p10
       try clear q10
       try clear hx10
       try clear p10
       try clear p2
       try clear p5
       try clear q10
       try clear q5
       obtain ⟨kq, x24_6, rfl, HA, HJ6, HO_4, HB⟩ := hcut
       cases kq with
       | zero => exact absurd HA.out (by simp [lex_quoted.j2])
       | succ kj6 =>
        have H := HA.out
        clear HA
        simp only [lex_quoted.j2] at H
        by_cases c11 : x24_6 = true
        ·subst c11
         have H1 : (if 0 ≤ x5_2 then (if x5_2 ≤ (a0.size : Int) then ((lex_piece.f kj6 (a0.extract (x5_2 : Int).toNat a0.size)).bind fun bt295 => (if bt295.2 = 0 then (some ((⟨#[]⟩ : ByteArray), 0)) else (if (x4_2.length : Int) ≥ 4096 then (some ((⟨#[]⟩ : ByteArray), 0)) else (if x4_2.length < 140737488355328 then (lex_quoted.l0 kj6 a0 (x4_2 ++ [bt295.1]) (wrap64 (x5_2 + bt295.2))) else (none))))) else (none)) else (none)) = some (r1, r2) := by rw [if_pos rfl] at H; exact H
         clear H
         have H := H1
         clear H1
         by_cases c12 : 0 ≤ x5_2
         ·rw [if_pos c12] at H
          have c12b0 := eq_true c12
          have c12b1 : decide (0 ≤ x5_2) = true := decide_eq_true c12
          clear c12
          by_cases c13 : x5_2 ≤ (a0.size : Int)
          ·rw [if_pos c13] at H
           have c13b0 := eq_true c13
           have c13b1 : decide (x5_2 ≤ (a0.size : Int)) = true := decide_eq_true c13
           clear c13
           replace H := Option.bind_eq_some_iff.mp H
           obtain ⟨⟨t295, t296⟩, A140, H⟩ := H
           replace H : (if t296 = 0 then (some ((⟨#[]⟩ : ByteArray), 0)) else (if (x4_2.length : Int) ≥ 4096 then (some ((⟨#[]⟩ : ByteArray), 0)) else (if x4_2.length < 140737488355328 then (lex_quoted.l0 kj6 a0 (x4_2 ++ [t295]) (wrap64 (x5_2 + t296))) else (none)))) = some (r1, r2) := H
           have A14 := Aside0.mk A140
           clear A140
           by_cases c15 : t296 = 0
           ·rw [if_pos c15] at H
            have c15b0 : (t296 == 0) = true := beq_iff_eq.mpr c15
            have c15b1 : (t296 != 0) = false := bne_eq_false_iff_eq.mpr c15
            clear c15
            simp only [Option.some.injEq, Prod.mk.injEq] at H
            obtain ⟨rfl, rfl⟩ := H
            go_wp2_with (first | ((with_reducible refine gate_callee (f := 96) rfl ?_); refine goesL_ (some 29) rfl rfl Tryz.func96 (by kernel_rfl) rfl #[.string (a0.extract (x5_2 : Int).toNat a0.size)] rfl (am.trans (by rfl)) ?_; (with_reducible refine (lex_piece.calls kj6 (a0.extract (x5_2 : Int).toNat a0.size) t295 t296 _ A14.out).mono ?_); rintro e w' ⟨rfl, ⟨nd, rfl⟩⟩; refine ⟨_, rfl, ?_⟩))
            go_ret2
            exact ⟨by first | rfl | (simp [*, errW_none, errW_some] <;> rfl), by repeat (first | (with_reducible first | exact HB.out | apply bw1 | apply bw2 | apply bw3) | exact HB.out)⟩
           ·rw [if_neg c15] at H
            have c15b0 : (t296 == 0) = false := beq_eq_false_iff_ne.mpr c15
            have c15b1 : (t296 != 0) = true := bne_iff_ne.mpr c15
            by_cases c16 : (x4_2.length : Int) ≥ 4096
            ·rw [if_pos c16] at H
             have c16b0 : decide (4096 ≤ (x4_2.length : Int)) = true := decide_eq_true c16
             have c16b1 : decide (4096 ≤ x4_2.length) = true := decide_eq_true (by omega)
             clear c16
             simp only [Option.some.injEq, Prod.mk.injEq] at H
             obtain ⟨rfl, rfl⟩ := H
             go_wp2_with (first | ((with_reducible refine gate_callee (f := 96) rfl ?_); refine goesL_ (some 29) rfl rfl Tryz.func96 (by kernel_rfl) rfl #[.string (a0.extract (x5_2 : Int).toNat a0.size)] rfl (am.trans (by rfl)) ?_; (with_reducible refine (lex_piece.calls kj6 (a0.extract (x5_2 : Int).toNat a0.size) t295 t296 _ A14.out).mono ?_); rintro e w' ⟨rfl, ⟨nd, rfl⟩⟩; refine ⟨_, rfl, ?_⟩; obtain ⟨Ao17, co17, eo17⟩ := Kd.R_slice HO_4.out; subst eo17))
             go_ret2
             exact ⟨by first | rfl | (simp [*, errW_none, errW_some] <;> rfl), by repeat (first | (with_reducible first | exact HB.out | apply bw1 | apply bw2 | apply bw3) | exact HB.out)⟩
            ·rw [if_neg c16] at H
             have c16b0 : decide (4096 ≤ (x4_2.length : Int)) = false := decide_eq_false c16
             have c16b1 : decide (4096 ≤ x4_2.length) = false := decide_eq_false (by omega)
             clear c16
             by_cases c18 : x4_2.length < 140737488355328
             ·rw [if_pos c18] at H
              have LMc18 := Aside0.mk c18
              clear c18
              obtain ⟨y297, hy297⟩ : ∃ y_ : List Int, y_ = (x4_2 ++ [t295]) := ⟨_, rfl⟩
              replace H : (lex_quoted.l0 kj6 a0 y297 (wrap64 (x5_2 + t296))) = some (r1, r2) := by first | (rw [hy297]; with_reducible exact H) | (have H2_ := (Option.bind_some _ _).symm.trans H; rw [hy297]; with_reducible exact H2_) | (have H2_ := (Option.bind_some _ _).symm.trans H; with_reducible exact H2_) | with_reducible exact H | (rw [hy297]; exact H) | exact H
              have Ny297 := Aside0.mk hy297
              clear hy297
              have H' := Aside0.mk H
              clear H
              go_wp2_with (first | ((with_reducible refine gate_callee (f := 96) rfl ?_); refine goesL_ (some 29) rfl rfl Tryz.func96 (by kernel_rfl) rfl #[.string (a0.extract (x5_2 : Int).toNat a0.size)] rfl (am.trans (by rfl)) ?_; (with_reducible refine (lex_piece.calls kj6 (a0.extract (x5_2 : Int).toNat a0.size) t295 t296 _ A14.out).mono ?_); rintro e w' ⟨rfl, ⟨nd, rfl⟩⟩; refine ⟨_, rfl, ?_⟩; obtain ⟨Ao19, co19, eo19⟩ := Kd.R_slice HO_4.out; subst eo19) | ((with_reducible refine gate_builtin (b := .append) (xs := #[.tmp 39, .tmp 41]) rfl ?_); (try (refine gate_guard (by rfl) ?_; dsimp only)); at_builtin; refine Kd.R_append (Kd.int .u8) (w0 := w) w.heap.size rfl (.tmp 39) (.tmp 41) 59 5 (.int .u8 0) 1 rfl Tryz.underlying59 info5 rfl (by decide) (by omega) (.slice Ao19 x4_2.length co19) x4_2 t295 [.int .u8 t295] (fun _ => True) (fun _ => False) rfl rfl ?aP (fun _ hk => hk.elim) ?aF ?aO ?aB ?aS ?aL ?_; (case aP => exact rfl); (case aB => exact (by repeat (first | (with_reducible first | exact HB.out | apply bw1 | apply bw2 | apply bw3) | exact HB.out))); (case aF => exact (fun _ _ => trivial)); (case aO => exact (by (with_reducible repeat (first | apply Kd.R_alloc | apply Kd.R_drewN | apply Kd.R_drew)); exact HO_4.out)); (case aS => exact (below_size (by repeat (first | (with_reducible first | exact HB.out | apply bw1 | apply bw2 | apply bw3) | exact HB.out)))); (case aL => have := LMc18.out; omega); intro v298 w20 ho hb hg hat; rw [← Ny297.out] at ho; have n0_ := Aside0.mk (hb); have n1_ := Aside0.mk (ho); clear HB HO_4; have HB := n0_; have HO299 := n1_; clear n0_ n1_; clear ho hb hg hat))
              go_roundg kj6
              case measure => have := HJ1.out; have := HK2.out; have := HJ6.out; omega
              case rel => exact ⟨(y297), (wrap64 (x5_2 + t296)), (by first | rfl | (simp; done) | (simp [*]; done)), H', ⟨by have := HJ1.out; have := HK2.out; have := HJ6.out; omega⟩, ⟨by (with_reducible repeat (first | apply Kd.R_alloc | apply Kd.R_drewN | apply Kd.R_drew)); exact HO299.out⟩, ⟨by repeat (first | (with_reducible first | exact HB.out | apply bw1 | apply bw2 | apply bw3) | exact HB.out)⟩⟩
             ·rw [if_neg c18] at H
              exact absurd H (by simp)
          ·rw [if_neg c13] at H
           exact absurd H (by simp)
         ·rw [if_neg c12] at H
          exact absurd H (by simp)
        ·replace c11 := Bool.eq_false_iff.mpr c11
         subst c11
         have H1 : (if x5_2 ≥ (a0.size : Int) then (some ((⟨#[]⟩ : ByteArray), 0)) else (some (strOfNums x4_2, wrap64 (x5_2 + 1)))) = some (r1, r2) := by rw [if_neg (show ¬ (false = true) by decide)] at H; exact H
         clear H
         have H := H1
         clear H1
         by_cases c21 : x5_2 ≥ (a0.size : Int)
         ·rw [if_pos c21] at H
          have c21b0 : decide ((a0.size : Int) ≤ x5_2) = true := decide_eq_true c21
          clear c21
          simp only [Option.some.injEq, Prod.mk.injEq] at H
          obtain ⟨rfl, rfl⟩ := H
          go_wp2
          go_ret2
          exact ⟨by first | rfl | (simp [*, errW_none, errW_some] <;> rfl), by repeat (first | (with_reducible first | exact HB.out | apply bw1 | apply bw2 | apply bw3) | exact HB.out)⟩
         ·rw [if_neg c21] at H
          have c21b0 : decide ((a0.size : Int) ≤ x5_2) = false := decide_eq_false c21
          clear c21
          simp only [Option.some.injEq, Prod.mk.injEq] at H
          obtain ⟨rfl, rfl⟩ := H
          have hcv22 := own_string (P := Tryz.prog) Tryz.underlying59 Tryz.underlying5 Tryz.underlying9 (Kd.own_of_R HO_4.out)
          go_wp2
          go_ret2
          exact ⟨by first | rfl | (simp [*, errW_none, errW_some] <;> rfl), by repeat (first | (with_reducible first | exact HB.out | apply bw1 | apply bw2 | apply bw3) | exact HB.out)⟩
set_option maxHeartbeats 8000000 in
set_option maxRecDepth 100000 in
theorem lex_letter.calls (a0 : Int) (r : Bool) (w : World) (h : lex_letter.f a0 = some r) :
  Calls Tryz.prog 77 #[.int .u8 a0] w fun e w' => e = .returned (.bool r) ∧ Drawn0 w w' := by
 have H : (if a0 = 95 then (some true) else (if a0 ≥ 97 then (if a0 ≤ 122 then (some true) else (if a0 ≥ 65 then (some (decide (a0 ≤ 90))) else (some false))) else (if a0 ≥ 65 then (some (decide (a0 ≤ 90))) else (some false)))) = some r := h
 clear h
 by_cases c2 : a0 = 95
 ·rw [if_pos c2] at H
  have c2b0 : (a0 == 95) = true := beq_iff_eq.mpr c2
  have c2b1 : (a0 != 95) = false := bne_eq_false_iff_eq.mpr c2
  clear c2
  obtain rfl := Option.some.inj H
  go_enter Tryz.func77, Tryz.ntmps77
  go_wp2
  go_ret
  exact ⟨by first | rfl | (simp; done) | (simp [*]; done), by repeat (first | exact Drawn0.refl _ | apply Drawn0.step)⟩
 ·rw [if_neg c2] at H
  have c2b0 : (a0 == 95) = false := beq_eq_false_iff_ne.mpr c2
  have c2b1 : (a0 != 95) = true := bne_iff_ne.mpr c2
  by_cases c3 : a0 ≥ 97
  ·rw [if_pos c3] at H
   have c3b0 : decide (97 ≤ a0) = true := decide_eq_true c3
   clear c3
   by_cases c4 : a0 ≤ 122
   ·rw [if_pos c4] at H
    have c4b0 : decide (a0 ≤ 122) = true := decide_eq_true c4
    clear c4
    obtain rfl := Option.some.inj H
    go_enter Tryz.func77, Tryz.ntmps77
    go_wp2
    go_ret
    exact ⟨by first | rfl | (simp; done) | (simp [*]; done), by repeat (first | exact Drawn0.refl _ | apply Drawn0.step)⟩
   ·rw [if_neg c4] at H
    have c4b0 : decide (a0 ≤ 122) = false := decide_eq_false c4
    clear c4
    by_cases c5 : a0 ≥ 65
    ·rw [if_pos c5] at H
     have c5b0 : decide (65 ≤ a0) = true := decide_eq_true c5
     clear c5
     obtain rfl := Option.some.inj H
     go_enter Tryz.func77, Tryz.ntmps77
     go_wp2
     go_ret
     exact ⟨by first | rfl | (simp; done) | (simp [*]; done), by repeat (first | exact Drawn0.refl _ | apply Drawn0.step)⟩
    ·rw [if_neg c5] at H
     have c5b0 : decide (65 ≤ a0) = false := decide_eq_false c5
     clear c5
     obtain rfl := Option.some.inj H
     go_enter Tryz.func77, Tryz.ntmps77
     go_wp2
     go_ret
     exact ⟨by first | rfl | (simp; done) | (simp [*]; done), by repeat (first | exact Drawn0.refl _ | apply Drawn0.step)⟩
  ·rw [if_neg c3] at H
   have c3b0 : decide (97 ≤ a0) = false := decide_eq_false c3
   clear c3
   by_cases c6 : a0 ≥ 65
   ·rw [if_pos c6] at H
    have c6b0 : decide (65 ≤ a0) = true := decide_eq_true c6
    clear c6
    obtain rfl := Option.some.inj H
    go_enter Tryz.func77, Tryz.ntmps77
    go_wp2
    go_ret
    exact ⟨by first | rfl | (simp; done) | (simp [*]; done), by repeat (first | exact Drawn0.refl _ | apply Drawn0.step)⟩
   ·rw [if_neg c6] at H
    have c6b0 : decide (65 ≤ a0) = false := decide_eq_false c6
    clear c6
    obtain rfl := Option.some.inj H
    go_enter Tryz.func77, Tryz.ntmps77
    go_wp2
    go_ret
    exact ⟨by first | rfl | (simp; done) | (simp [*]; done), by repeat (first | exact Drawn0.refl _ | apply Drawn0.step)⟩
theorem gap1_calls (c : Int) (w : World) : Calls Tryz.prog 95 #[.int .u8 c] w fun e w' => e = .returned (.bool (decide (c ≠ 10))) ∧ w' = w := by
 by_cases h : c = 10
 ·have h1 : (c == 10) = true := by simpa using h
  have h2 : (c != 10) = false := by simpa using h
  have h3 : decide (c ≠ 10) = false := by simpa using h
  rw [h3]
  clear h
  go_enter Tryz.func95, Tryz.ntmps95
  go_wp2
  go_ret
  exact ⟨by first | rfl | simp, rfl⟩
 ·have h1 : (c == 10) = false := by rw [beq_eq_false_iff_ne]; exact h
  have h2 : (c != 10) = true := by rw [bne_iff_ne]; exact h
  have h3 : decide (c ≠ 10) = true := by simpa using h
  rw [h3]
  clear h
  go_enter Tryz.func95, Tryz.ntmps95
  go_wp2
  go_ret
  exact ⟨by first | rfl | simp, rfl⟩
theorem digit_calls' (c : Int) (w : World) : Calls Tryz.prog 80 #[.int .u8 c] w fun e w' => e = .returned (.bool (isDigit c)) ∧ w' = w := by
 unfold isDigit
 by_cases h : 48 ≤ c <;> by_cases h' : c ≤ 57
 all_goals
  first | have h1 : decide (48 ≤ c) = true := decide_eq_true h | have h1 : decide (48 ≤ c) = false := decide_eq_false h
  first | have h2 : decide (c ≤ 57) = true := decide_eq_true h' | have h2 : decide (c ≤ 57) = false := decide_eq_false h'
  rw [h1, h2]
  clear h h'
  go_enter Tryz.func80, Tryz.ntmps80
  go_wp2
  go_ret
  exact ⟨by first | rfl | simp, rfl⟩
theorem letter_calls' (c : Int) (w : World) : Calls Tryz.prog 77 #[.int .u8 c] w fun e w' => e = .returned (.bool (isLetter c)) ∧ w' = w := by
 unfold isLetter
 by_cases h : c = 95
 ·have h0 : (c == 95) = true := by simpa using h
  have h1 : decide (c = 95) = true := decide_eq_true h
  rw [h1, Bool.true_or, Bool.true_or]
  clear h h1
  go_enter Tryz.func77, Tryz.ntmps77
  go_wp2
  go_ret
  exact ⟨by first | rfl | simp, rfl⟩
 ·have h0 : (c == 95) = false := by simpa using h
  have h1 : decide (c = 95) = false := decide_eq_false h
  rw [h1, Bool.false_or]
  clear h h1
  by_cases a : 97 ≤ c <;> by_cases b : c ≤ 122 <;> by_cases d : 65 ≤ c <;> by_cases e : c ≤ 90
  all_goals
   first | have h1 : decide (97 ≤ c) = true := decide_eq_true a | have h1 : decide (97 ≤ c) = false := decide_eq_false a
   first | have h2 : decide (c ≤ 122) = true := decide_eq_true b | have h2 : decide (c ≤ 122) = false := decide_eq_false b
   first | have h3 : decide (65 ≤ c) = true := decide_eq_true d | have h3 : decide (65 ≤ c) = false := decide_eq_false d
   first | have h4 : decide (c ≤ 90) = true := decide_eq_true e | have h4 : decide (c ≤ 90) = false := decide_eq_false e
   rw [h1, h2, h3, h4]
   clear a b d e
   go_enter Tryz.func77, Tryz.ntmps77
   go_wp2
   go_ret
   exact ⟨by first | rfl | simp, rfl⟩
theorem token1_calls (c : Int) (w : World) : Calls Tryz.prog 79 #[.int .u8 c] w fun e w' => e = .returned (.bool (isLetter c || isDigit c)) ∧ w' = w := by
 have hl : ∃ b, isLetter c = b := ⟨_, rfl⟩
 obtain ⟨b, hl⟩ := hl
 have L := letter_calls' c
 rw [hl] at L ⊢
 cases b with
 | true =>
  rw [Bool.true_or]
  go_enter Tryz.func79, Tryz.ntmps79
  go_wp2_with (first | (go_at_call 77; refine (L _).mono ?_; rintro e w' ⟨rfl, rfl⟩) | (go_at_call 80; refine (digit_calls' _ _).mono ?_; rintro e w' ⟨rfl, rfl⟩))
  go_ret
  exact ⟨by first | rfl | simp, rfl⟩
 | false =>
  rw [Bool.false_or]
  go_enter Tryz.func79, Tryz.ntmps79
  go_wp2_with (first | (go_at_call 77; refine (L _).mono ?_; rintro e w' ⟨rfl, rfl⟩) | (go_at_call 80; refine (digit_calls' _ _).mono ?_; rintro e w' ⟨rfl, rfl⟩))
  go_ret
  exact ⟨by first | rfl | simp, rfl⟩
theorem tw_get (p : UInt8 → Bool) (l : List UInt8) (k : Nat) (h : k < (l.takeWhile p).length) : ∃ c, l[k]? = some c ∧ p c = true := by
 induction l generalizing k with
 | nil => simp at h
 | cons a l ih =>
  rw [List.takeWhile_cons] at h
  split at h
  ·rename_i ha
   cases k with
   | zero => exact ⟨a, rfl, ha⟩
   | succ k => simpa using ih k (by simpa using h)
  ·simp at h
theorem tw_le (p : UInt8 → Bool) (l : List UInt8) : (l.takeWhile p).length ≤ l.length := (List.takeWhile_sublist p).length_le
theorem tw_end (p : UInt8 → Bool) (l : List UInt8) : (l.takeWhile p).length = l.length ∨ ∃ c, l[(l.takeWhile p).length]? = some c ∧ p c = false := by
 induction l with
 | nil => left; rfl
 | cons a l ih =>
  rw [List.takeWhile_cons]
  split
  ·rcases ih with h | ⟨c, h1, h2⟩
   ·left; simp [h]
   ·right; exact ⟨c, by simpa using h1, h2⟩
  ·rename_i ha; right; exact ⟨a, rfl, by simpa using ha⟩
theorem bt_of_drop (s : ByteArray) (i k : Nat) (c : UInt8) (h : (s.data.toList.drop i)[k]? = some c) : bt s ((i : Int) + (k : Int)) = (c.toNat : Int) ∧ i + k < s.size := by
 obtain ⟨⟨l⟩⟩ := s
 rw [List.getElem?_drop] at h
 have hlt := (List.getElem?_eq_some_iff.1 h).1
 have hlt2 : i + k < (⟨⟨l⟩⟩ : ByteArray).size := hlt
 refine ⟨?_, hlt2⟩
 unfold bt
 have e : ((i : Int) + (k : Int)).toNat = i + k := by omega
 simp only [e]
 rw [dif_pos hlt2]
 have e2 := (List.getElem?_eq_some_iff.1 h).2
 have : (⟨⟨l⟩⟩ : ByteArray)[i + k]'hlt2 = l[i + k]'hlt := rfl
 rw [this, e2]
set_option maxHeartbeats 4000000 in
set_option maxRecDepth 100000 in
theorem run_gap1 (p : Int → Bool) (hp : ∀ (c : Int) (b : Bool) (w : World), p c = b → Calls Tryz.prog 95 #[.int .u8 c] w fun e w' => e = .returned (.bool b) ∧ w' = w) (s : ByteArray) (i : Nat) (hi : i ≤ s.size) (hs : s.size ≤ 1099511627776) (w : World) :
  Calls Tryz.prog 78 #[.string s, .int .i64 (i : Int), .func (.func 95) #[] #[]] w fun e w' => e = .returned (.int .i64 (((s.data.toList.drop i).takeWhile (fun c => p (c.toNat : Int))).length : Nat)) ∧ Drawn0 w w' := by
 have HP := Lib.hid hp
 clear hp
 have hlen : ((s.data.toList.drop i).takeWhile (fun c => p (c.toNat : Int))).length ≤ s.size - i := by
  refine Nat.le_trans (tw_le _ _) ?_
  rw [List.length_drop]
  have : s.data.toList.length = s.size := by obtain ⟨⟨l⟩⟩ := s; rfl
  omega
 go_enter Tryz.func78, Tryz.ntmps78
 go_wp2
 go_loopw [7] (fun v w' => ∃ k : Nat, k ≤ ((s.data.toList.drop i).takeWhile (fun c => p (c.toNat : Int))).length ∧ v = .int .i64 k ∧ Aside0 (Drawn0 w w')) (fun v _ => ((s.data.toList.drop i).takeWhile (fun c => p (c.toNat : Int))).length - (intOf v).toNat)
 case atStart => exact ⟨0, by omega, rfl, ⟨Drawn0.refl _⟩⟩
 case round =>
  obtain ⟨k, hk, rfl, HD⟩ := hrel
  by_cases hlt : k < ((s.data.toList.drop i).takeWhile (fun c => p (c.toNat : Int))).length
  ·obtain ⟨c, h1, h2⟩ := tw_get _ _ _ hlt
   obtain ⟨h3, h4⟩ := bt_of_drop s i k c h1
   have hx := bt_at s ((i : Int) + (k : Int))
   have HC := HP.out (bt s ((i : Int) + (k : Int))) true
   have HC2 := Lib.hid (fun w => HC w (by rw [h3]; exact h2))
   clear HC h1 h2 h3
   have hl0 : (i : Int) + (k : Int) < (s.size : Int) := by omega
   go_wp2_with (go_at_call 95; refine (HC2.out _).mono ?_; rintro e w' ⟨rfl, rfl⟩)
   go_roundw
   case rel => exact ⟨k + 1, by omega, by go_num, ⟨by first | exact HD.out | exact HD.out.step _⟩⟩
   case measure => simp [intOf]; omega
  ·have hk2 : k = ((s.data.toList.drop i).takeWhile (fun c => p (c.toNat : Int))).length := by omega
   have hend := tw_end (fun c => p (c.toNat : Int)) (s.data.toList.drop i)
   have HK := Lib.hid hk2
   rw [← hk2] at hend
   clear hlt hk hlen
   rcases hend with he | ⟨c, h1, h2⟩
   ·rw [List.length_drop] at he
    have hsz : s.data.toList.length = s.size := by obtain ⟨⟨l⟩⟩ := s; rfl
    have hl0 : ¬ ((i : Int) + (k : Int) < (s.size : Int)) := by omega
    have hl1 : decide ((i : Int) + (k : Int) < (s.size : Int)) = false := decide_eq_false hl0
    have hl2 : decide (i + k < s.size) = false := decide_eq_false (by omega)
    have hl3 : (s.size : Int) ≤ (i : Int) + (k : Int) := by omega
    have hkb : i + k ≤ s.size := by omega
    clear hk2 he hsz hl0
    go_wp2
    go_ret
    exact ⟨by rw [← HK.out]; rfl, by first | exact HD.out | exact HD.out.step _⟩
   ·obtain ⟨h3, h4⟩ := bt_of_drop s i k c h1
    have hx := bt_at s ((i : Int) + (k : Int))
    have HC := HP.out (bt s ((i : Int) + (k : Int))) false
    have HC2 := Lib.hid (fun w => HC w (by rw [h3]; exact h2))
    clear HC h1 h2 h3 hk2
    have hl0 : (i : Int) + (k : Int) < (s.size : Int) := by omega
    go_wp2_with (go_at_call 95; refine (HC2.out _).mono ?_; rintro e w' ⟨rfl, rfl⟩)
    go_ret
    exact ⟨by rw [← HK.out]; rfl, by first | exact HD.out | exact HD.out.step _⟩
set_option maxHeartbeats 4000000 in
set_option maxRecDepth 100000 in
theorem run_token1 (p : Int → Bool) (hp : ∀ (c : Int) (b : Bool) (w : World), p c = b → Calls Tryz.prog 79 #[.int .u8 c] w fun e w' => e = .returned (.bool b) ∧ w' = w) (s : ByteArray) (i : Nat) (hi : i ≤ s.size) (hs : s.size ≤ 1099511627776) (w : World) :
  Calls Tryz.prog 78 #[.string s, .int .i64 (i : Int), .func (.func 79) #[] #[]] w fun e w' => e = .returned (.int .i64 (((s.data.toList.drop i).takeWhile (fun c => p (c.toNat : Int))).length : Nat)) ∧ Drawn0 w w' := by
 have HP := Lib.hid hp
 clear hp
 have hlen : ((s.data.toList.drop i).takeWhile (fun c => p (c.toNat : Int))).length ≤ s.size - i := by
  refine Nat.le_trans (tw_le _ _) ?_
  rw [List.length_drop]
  have : s.data.toList.length = s.size := by obtain ⟨⟨l⟩⟩ := s; rfl
  omega
 go_enter Tryz.func78, Tryz.ntmps78
 go_wp2
 go_loopw [7] (fun v w' => ∃ k : Nat, k ≤ ((s.data.toList.drop i).takeWhile (fun c => p (c.toNat : Int))).length ∧ v = .int .i64 k ∧ Aside0 (Drawn0 w w')) (fun v _ => ((s.data.toList.drop i).takeWhile (fun c => p (c.toNat : Int))).length - (intOf v).toNat)
 case atStart => exact ⟨0, by omega, rfl, ⟨Drawn0.refl _⟩⟩
 case round =>
  obtain ⟨k, hk, rfl, HD⟩ := hrel
  by_cases hlt : k < ((s.data.toList.drop i).takeWhile (fun c => p (c.toNat : Int))).length
  ·obtain ⟨c, h1, h2⟩ := tw_get _ _ _ hlt
   obtain ⟨h3, h4⟩ := bt_of_drop s i k c h1
   have hx := bt_at s ((i : Int) + (k : Int))
   have HC := HP.out (bt s ((i : Int) + (k : Int))) true
   have HC2 := Lib.hid (fun w => HC w (by rw [h3]; exact h2))
   clear HC h1 h2 h3
   have hl0 : (i : Int) + (k : Int) < (s.size : Int) := by omega
   go_wp2_with (go_at_call 79; refine (HC2.out _).mono ?_; rintro e w' ⟨rfl, rfl⟩)
   go_roundw
   case rel => exact ⟨k + 1, by omega, by go_num, ⟨by first | exact HD.out | exact HD.out.step _⟩⟩
   case measure => simp [intOf]; omega
  ·have hk2 : k = ((s.data.toList.drop i).takeWhile (fun c => p (c.toNat : Int))).length := by omega
   have hend := tw_end (fun c => p (c.toNat : Int)) (s.data.toList.drop i)
   have HK := Lib.hid hk2
   rw [← hk2] at hend
   clear hlt hk hlen
   rcases hend with he | ⟨c, h1, h2⟩
   ·rw [List.length_drop] at he
    have hsz : s.data.toList.length = s.size := by obtain ⟨⟨l⟩⟩ := s; rfl
    have hl0 : ¬ ((i : Int) + (k : Int) < (s.size : Int)) := by omega
    have hl1 : decide ((i : Int) + (k : Int) < (s.size : Int)) = false := decide_eq_false hl0
    have hl2 : decide (i + k < s.size) = false := decide_eq_false (by omega)
    have hl3 : (s.size : Int) ≤ (i : Int) + (k : Int) := by omega
    have hkb : i + k ≤ s.size := by omega
    clear hk2 he hsz hl0
    go_wp2
    go_ret
    exact ⟨by rw [← HK.out]; rfl, by first | exact HD.out | exact HD.out.step _⟩
   ·obtain ⟨h3, h4⟩ := bt_of_drop s i k c h1
    have hx := bt_at s ((i : Int) + (k : Int))
    have HC := HP.out (bt s ((i : Int) + (k : Int))) false
    have HC2 := Lib.hid (fun w => HC w (by rw [h3]; exact h2))
    clear HC h1 h2 h3 hk2
    have hl0 : (i : Int) + (k : Int) < (s.size : Int) := by omega
    go_wp2_with (go_at_call 79; refine (HC2.out _).mono ?_; rintro e w' ⟨rfl, rfl⟩)
    go_ret
    exact ⟨by rw [← HK.out]; rfl, by first | exact HD.out | exact HD.out.step _⟩
set_option maxHeartbeats 4000000 in
set_option maxRecDepth 100000 in
theorem run_digit (p : Int → Bool) (hp : ∀ (c : Int) (b : Bool) (w : World), p c = b → Calls Tryz.prog 80 #[.int .u8 c] w fun e w' => e = .returned (.bool b) ∧ w' = w) (s : ByteArray) (i : Nat) (hi : i ≤ s.size) (hs : s.size ≤ 1099511627776) (w : World) :
  Calls Tryz.prog 78 #[.string s, .int .i64 (i : Int), .func (.func 80) #[] #[]] w fun e w' => e = .returned (.int .i64 (((s.data.toList.drop i).takeWhile (fun c => p (c.toNat : Int))).length : Nat)) ∧ Drawn0 w w' := by
 have HP := Lib.hid hp
 clear hp
 have hlen : ((s.data.toList.drop i).takeWhile (fun c => p (c.toNat : Int))).length ≤ s.size - i := by
  refine Nat.le_trans (tw_le _ _) ?_
  rw [List.length_drop]
  have : s.data.toList.length = s.size := by obtain ⟨⟨l⟩⟩ := s; rfl
  omega
 go_enter Tryz.func78, Tryz.ntmps78
 go_wp2
 go_loopw [7] (fun v w' => ∃ k : Nat, k ≤ ((s.data.toList.drop i).takeWhile (fun c => p (c.toNat : Int))).length ∧ v = .int .i64 k ∧ Aside0 (Drawn0 w w')) (fun v _ => ((s.data.toList.drop i).takeWhile (fun c => p (c.toNat : Int))).length - (intOf v).toNat)
 case atStart => exact ⟨0, by omega, rfl, ⟨Drawn0.refl _⟩⟩
 case round =>
  obtain ⟨k, hk, rfl, HD⟩ := hrel
  by_cases hlt : k < ((s.data.toList.drop i).takeWhile (fun c => p (c.toNat : Int))).length
  ·obtain ⟨c, h1, h2⟩ := tw_get _ _ _ hlt
   obtain ⟨h3, h4⟩ := bt_of_drop s i k c h1
   have hx := bt_at s ((i : Int) + (k : Int))
   have HC := HP.out (bt s ((i : Int) + (k : Int))) true
   have HC2 := Lib.hid (fun w => HC w (by rw [h3]; exact h2))
   clear HC h1 h2 h3
   have hl0 : (i : Int) + (k : Int) < (s.size : Int) := by omega
   go_wp2_with (go_at_call 80; refine (HC2.out _).mono ?_; rintro e w' ⟨rfl, rfl⟩)
   go_roundw
   case rel => exact ⟨k + 1, by omega, by go_num, ⟨by first | exact HD.out | exact HD.out.step _⟩⟩
   case measure => simp [intOf]; omega
  ·have hk2 : k = ((s.data.toList.drop i).takeWhile (fun c => p (c.toNat : Int))).length := by omega
   have hend := tw_end (fun c => p (c.toNat : Int)) (s.data.toList.drop i)
   have HK := Lib.hid hk2
   rw [← hk2] at hend
   clear hlt hk hlen
   rcases hend with he | ⟨c, h1, h2⟩
   ·rw [List.length_drop] at he
    have hsz : s.data.toList.length = s.size := by obtain ⟨⟨l⟩⟩ := s; rfl
    have hl0 : ¬ ((i : Int) + (k : Int) < (s.size : Int)) := by omega
    have hl1 : decide ((i : Int) + (k : Int) < (s.size : Int)) = false := decide_eq_false hl0
    have hl2 : decide (i + k < s.size) = false := decide_eq_false (by omega)
    have hl3 : (s.size : Int) ≤ (i : Int) + (k : Int) := by omega
    have hkb : i + k ≤ s.size := by omega
    clear hk2 he hsz hl0
    go_wp2
    go_ret
    exact ⟨by rw [← HK.out]; rfl, by first | exact HD.out | exact HD.out.step _⟩
   ·obtain ⟨h3, h4⟩ := bt_of_drop s i k c h1
    have hx := bt_at s ((i : Int) + (k : Int))
    have HC := HP.out (bt s ((i : Int) + (k : Int))) false
    have HC2 := Lib.hid (fun w => HC w (by rw [h3]; exact h2))
    clear HC h1 h2 h3 hk2
    have hl0 : (i : Int) + (k : Int) < (s.size : Int) := by omega
    go_wp2_with (go_at_call 80; refine (HC2.out _).mono ?_; rintro e w' ⟨rfl, rfl⟩)
    go_ret
    exact ⟨by rw [← HK.out]; rfl, by first | exact HD.out | exact HD.out.step _⟩
theorem lex_run.calls (a0 : ByteArray) (a1 : Int) (a2 : Nat) (r : Int) (w : World) (h : lex_run.f a0 a1 a2 = some r) :
  Calls Tryz.prog 78 #[.string a0, .int .i64 a1, .func (.func a2) #[] #[]] w fun e w' => e = .returned (.int .i64 r) ∧ Drawn0 w w' := by
 unfold lex_run.f at h
 split at h
 ·rename_i hb
  obtain ⟨h0, h1, h2⟩ := hb
  obtain ⟨i, rfl⟩ : ∃ i : Nat, a1 = i := ⟨a1.toNat, by omega⟩
  rw [Option.map_eq_some_iff] at h
  obtain ⟨p, hp, rfl⟩ := h
  unfold fnP at hp
  split at hp
  ·rename_i e; subst e; cases hp
   exact run_gap1 _ (fun c b w hb => by rw [← hb]; exact gap1_calls c w) a0 i (by omega) h2 w
  ·split at hp
   ·rename_i e; subst e; cases hp
    exact run_token1 _ (fun c b w hb => by rw [← hb]; exact token1_calls c w) a0 i (by omega) h2 w
   ·split at hp
    ·rename_i e; subst e; cases hp
     exact run_digit _ (fun c b w hb => by rw [← hb]; exact digit_calls' c w) a0 i (by omega) h2 w
    ·cases hp
 ·cases h
end Go.Proofs.YtifachjefpcgcaaGreatDoor.P
