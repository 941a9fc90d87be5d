import Derived.Test.YtflmcglppeehgaaDoorTPD
import Derived.Test.YtflmcglppeehgaaDoorTP3
import Derived.Test.YtflmcglppeehgaaDoorTP5
namespace Go.Proofs.YtflmcglppeehgaaDoor.P
open Go.RowKit Go.Proofs.YtflmcglppeehgaaDoorW.PrintWords Go.Proofs.YtflmcglppeehgaaDoorW.PrintLast Go.Proofs.YtflmcglppeehgaaDoorW.PrintMore
attribute [local go_sem] max2_int min2_int max_two min_two max_three min_three max_four min_four
set_option linter.unusedVariables false
set_option linter.unusedSimpArgs false
set_option maxHeartbeats 8000000 in
set_option maxRecDepth 100000 in
theorem lex_quoted.calls (k : Nat) (a0 : ByteArray) (r1 : ByteArray) (r2 : Int) (w : World) (h : lex_quoted.f k a0 = some (r1, r2)) :
    Calls Tryd.prog 41 #[.string a0] w fun e w' => e = .returned (.tuple #[.string r1, .int .i64 r2]) ∧ Below w.heap.size w w' := by
  have HB := Aside0.mk (Below.refl w.heap.size w)
  have H : (if a0.toList = ([] : List UInt8) then (lex_quoted.j0 k a0 true) else (if 0 < (a0.size : Int) then (lex_quoted.j0 k a0 ((bt a0 0) != 34)) else (none))) = some (r1, r2) := h
  clear h
  have HC2 := Aside0.mk H
  clear H
  go_enter Tryd.func41, Tryd.ntmps41
  go_upto_region 1 with (fail)
  go_cut [14] (fun v14 wc => ∃ (kq : Nat) (x14_1 : Bool), v14 = .bool x14_1 ∧ Aside0 (lex_quoted.j0 kq a0 x14_1 = some (r1, r2)) ∧ Aside0 (kq ≤ k) ∧ Aside0 (Below w.heap.size w wc))
  case first =>
    have H := HC2.out
    clear HC2
    by_cases c3 : a0.toList = ([] : List UInt8)
    · rw [if_pos c3] at H
      have c3b0 : (a0.toList == ([] : List UInt8)) = true := beq_iff_eq.mpr c3
      have c3b1 : (a0.toList != ([] : List UInt8)) = false := bne_eq_false_iff_eq.mpr c3
      have c3b2 : a0.toList.isEmpty = true := by simpa using c3
      clear c3
      (first | rw [c3b0] | rw [c3b2] | (simp only [i64_w, i32_w]; rw [c3b0]) | skip)
      have H' := Aside0.mk H
      clear H
      go_wp2
      go_meet
      case rel => exact ⟨_, (true), (by first | rfl | (simp; done) | (simp [*]; done)), H', ⟨by first | omega | exact Nat.le_refl _⟩, ⟨by repeat (first | (with_reducible first | exact HB.out | apply below_alloc | apply pw_below_drewN | apply below_drew1) | exact HB.out)⟩⟩
    · rw [if_neg c3] at H
      have c3b0 : (a0.toList == ([] : List UInt8)) = false := beq_eq_false_iff_ne.mpr c3
      have c3b1 : (a0.toList != ([] : List UInt8)) = true := bne_iff_ne.mpr c3
      have c3b2 : a0.toList.isEmpty = false := by simpa using c3
      (first | rw [c3b0] | rw [c3b2] | (simp only [i64_w, i32_w]; rw [c3b0]) | skip)
      by_cases c4 : 0 < (a0.size : Int)
      · rw [if_pos c4] at H
        have c4b0 : decide (0 < (a0.size : Int)) = true := decide_eq_true c4
        have c4b1 : decide (0 < a0.size) = true := decide_eq_true (by omega)
        clear c4
        have H' := Aside0.mk H
        clear H
        have p5 : 0 ≤ (0 : Int) := (by omega)
        have q5 : 0 < a0.size := (by have : (0 : Int) < (a0.size : Int) := of_decide_eq_true (by first | (with_reducible assumption) | assumption); omega)
        have hx5 : ∀ h : 0 < a0.size, ((a0[0]'h).toNat : Int) = bt a0 0 := bt_at a0 0
        clear p5
        have qi5 : (0 < (a0.size : Int)) = True := eq_true (of_decide_eq_true (by first | (with_reducible assumption) | assumption))
        replace q5 := eq_true q5
        go_wp2
        go_meet
        case rel => exact ⟨_, (((bt a0 0) != 34)), (by first | rfl | (simp; done) | (simp [*]; done)), H', ⟨by first | omega | exact Nat.le_refl _⟩, ⟨by repeat (first | (with_reducible first | exact HB.out | apply below_alloc | apply pw_below_drewN | apply below_drew1) | exact HB.out)⟩⟩
      · rw [if_neg c4] at H
        exact absurd H (by simp)
  case rest =>
    clear HC2
    try clear p2
    try clear c3
    try clear c3b0
    try clear c3b1
    try clear c3b2
    try clear c4
    try clear c4b0
    try clear c4b1
    try clear p5
    try clear q5
    try clear hx5
    try clear qi5
    try clear p5
    try clear q5
    obtain ⟨kq, x14_1, rfl, HA, HJ1, HB⟩ := hcut
    cases kq with
    | zero => exact absurd HA.out (by simp [lex_quoted.j0])
    | succ kj1 =>
      have H := HA.out
      clear HA
      simp only [lex_quoted.j0] at H
      by_cases c6 : x14_1 = true
      · subst c6
        have H1 : (some ((⟨#[]⟩ : ByteArray), 0)) = some (r1, r2) := by rw [if_pos rfl] at H; exact H
        clear H
        have H := H1
        clear H1
        simp only [Option.some.injEq, Prod.mk.injEq] at H
        obtain ⟨rfl, rfl⟩ := H
        go_wp2
        go_ret2
        exact ⟨by first | rfl | (simp [errW_none, errW_some] <;> rfl) | (simp [*, errW_none, errW_some] <;> rfl), by repeat (first | (with_reducible first | exact HB.out | apply below_alloc | apply pw_below_drewN | apply below_drew1) | exact HB.out)⟩
      · replace c6 := Bool.eq_false_iff.mpr c6
        subst c6
        have H1 : (lex_quoted.l0 kj1 a0 ([] : List Int) 1) = some (r1, r2) := by rw [if_neg (show ¬ (false = true) by decide)] at H; exact H
        clear H
        have H := H1
        clear H1
        have H' := Aside0.mk H
        clear H
        go_wp2
        go_loopg [4, 5] kj1 (fun kq v4 v5 w' => ∃ (x4_2 : List Int) (x5_2 : Int), v5 = .int .i64 x5_2 ∧ Aside0 (lex_quoted.l0 kq a0 x4_2 x5_2 = some (r1, r2)) ∧ Aside0 (kq ≤ kj1) ∧ Aside0 (Kd.R (Kd.int .u8) 5 w' w.heap.size (fun _ => True) v4 x4_2) ∧ Aside0 (Below w.heap.size w w'))
        case atStart => exact ⟨(([] : List Int)), (1), (by first | rfl | (simp; done) | (simp [*]; done)), H', ⟨Nat.le_refl _⟩, ⟨by first | exact Kd.R_nil _ _ _ _ _ | exact Kd.N_nil _ _ _ _ _ | exact Kd.V_nil _ _ _ _ _ | exact Kd.Q_nil _ _ _ _ _ | exact Kd.S_nil _ _ _ _ _⟩, ⟨by repeat (first | (with_reducible first | exact HB.out | apply below_alloc | apply pw_below_drewN | apply below_drew1) | exact HB.out)⟩⟩
        case round =>
          clear H'
          try clear p2
          try clear c3
          try clear c3b0
          try clear c3b1
          try clear c3b2
          try clear c4
          try clear c4b0
          try clear c4b1
          try clear p5
          try clear q5
          try clear hx5
          try clear qi5
          try clear c6
          try clear p2
          try clear p5
          try clear q5
          obtain ⟨x4_2, x5_2, rfl, HA, HK2, HO_4, HB⟩ := hrel
          cases gk with
          | zero => exact absurd HA.out (by simp [lex_quoted.l0])
          | succ k2 =>
            have H := HA.out
            clear HA
            simp only [lex_quoted.l0] at H
            have HC7 := Aside0.mk H
            clear H
            go_upto_region 5 with (fail)
            go_cut [24] (fun v24 wc => ∃ (kq : Nat) (x24_6 : Bool), v24 = .bool x24_6 ∧ Aside0 (lex_quoted.j2 kq a0 x4_2 x5_2 x24_6 = some (r1, r2)) ∧ Aside0 (kq ≤ k2) ∧ Aside0 (Kd.R (Kd.int .u8) 5 wc w.heap.size (fun _ => True) u4 x4_2) ∧ Aside0 (Below w.heap.size w wc))
            case first =>
              have H := HC7.out
              clear HC7
              by_cases c8 : x5_2 < (a0.size : Int)
              · rw [if_pos c8] at H
                have c8b0 : decide (x5_2 < (a0.size : Int)) = true := decide_eq_true c8
                clear c8
                (first | rw [c8b0] | (simp only [i64_w, i32_w]; rw [c8b0]) | skip)
                by_cases c9 : 0 ≤ x5_2
                · rw [if_pos c9] at H
                  have c9b0 : decide (0 ≤ x5_2) = true := decide_eq_true c9
                  clear c9
                  have H' := Aside0.mk H
                  clear H
                  have p10 : 0 ≤ (x5_2 : Int) := of_decide_eq_true (by first | (with_reducible assumption) | assumption)
                  have q10 : x5_2 < (a0.size : Int) := of_decide_eq_true (by first | (with_reducible assumption) | assumption)
                  have hx10 := bt_at a0 x5_2
                  replace p10 := eq_true p10
                  replace q10 := eq_true q10
                  go_wp2
                  go_meet
                  case rel => exact ⟨_, (((bt a0 x5_2) != 34)), (by first | rfl | (simp; done) | (simp [*]; done)), H', ⟨by have := HJ1.out; have := HK2.out; first | omega | exact Nat.le_refl _⟩, ⟨by (with_reducible repeat (first | apply Kd.R_alloc | apply Kd.R_drewN | apply Kd.R_drew)); exact HO_4.out⟩, ⟨by repeat (first | (with_reducible first | exact HB.out | apply below_alloc | apply pw_below_drewN | apply below_drew1) | exact HB.out)⟩⟩
                · rw [if_neg c9] at H
                  exact absurd H (by simp)
              · rw [if_neg c8] at H
                have c8b0 : decide (x5_2 < (a0.size : Int)) = false := decide_eq_false c8
                clear c8
                (first | rw [c8b0] | (simp only [i64_w, i32_w]; rw [c8b0]) | skip)
                have H' := Aside0.mk H
                clear H
                go_wp2
                go_meet
                case rel => exact ⟨_, (false), (by first | rfl | (simp; done) | (simp [*]; done)), H', ⟨by have := HJ1.out; have := HK2.out; first | omega | exact Nat.le_refl _⟩, ⟨by (with_reducible repeat (first | apply Kd.R_alloc | apply Kd.R_drewN | apply Kd.R_drew)); exact HO_4.out⟩, ⟨by repeat (first | (with_reducible first | exact HB.out | apply below_alloc | apply pw_below_drewN | apply below_drew1) | exact HB.out)⟩⟩
            case rest =>
              clear HC7
              try clear p1
              try clear q1
              try clear hx1
              try clear p2
              try clear c3
              try clear c3b0
              try clear c3b1
              try clear c3b2
              try clear c4
              try clear c4b0
              try clear c4b1
              try clear p5
              try clear q5
              try clear hx5
              try clear qi5
              try clear c6
              try clear c8
              try clear c8b0
              try clear c9
              try clear c9b0
              try clear p10
              try clear q10
              try clear hx10
              try clear p10
              try clear p2
              try clear p5
              try clear q10
              try clear q5
              obtain ⟨kq, x24_6, rfl, HA, HJ6, HO_4, HB⟩ := hcut
              cases kq with
              | zero => exact absurd HA.out (by simp [lex_quoted.j2])
              | succ kj6 =>
                have H := HA.out
                clear HA
                simp only [lex_quoted.j2] at H
                by_cases c11 : x24_6 = true
                · subst c11
                  have H1 : (if 0 ≤ x5_2 then (if x5_2 ≤ (a0.size : Int) then ((lex_piece.f kj6 (a0.extract (x5_2 : Int).toNat a0.size)).bind fun bt111 => (if bt111.2 = 0 then (some ((⟨#[]⟩ : ByteArray), 0)) else (if (x4_2.length : Int) ≥ 4096 then (some ((⟨#[]⟩ : ByteArray), 0)) else (if x4_2.length < 140737488355328 then (lex_quoted.l0 kj6 a0 (x4_2 ++ [bt111.1]) (wrap64 (x5_2 + bt111.2))) else (none))))) else (none)) else (none)) = some (r1, r2) := by rw [if_pos rfl] at H; exact H
                  clear H
                  have H := H1
                  clear H1
                  by_cases c12 : 0 ≤ x5_2
                  · rw [if_pos c12] at H
                    have c12b0 := eq_true c12
                    have c12b1 : decide (0 ≤ x5_2) = true := decide_eq_true c12
                    clear c12
                    by_cases c13 : x5_2 ≤ (a0.size : Int)
                    · rw [if_pos c13] at H
                      have c13b0 := eq_true c13
                      have c13b1 : decide (x5_2 ≤ (a0.size : Int)) = true := decide_eq_true c13
                      clear c13
                      replace H := Option.bind_eq_some_iff.mp H
                      obtain ⟨⟨t111, t112⟩, A140, H⟩ := H
                      replace H : (if t112 = 0 then (some ((⟨#[]⟩ : ByteArray), 0)) else (if (x4_2.length : Int) ≥ 4096 then (some ((⟨#[]⟩ : ByteArray), 0)) else (if x4_2.length < 140737488355328 then (lex_quoted.l0 kj6 a0 (x4_2 ++ [t111]) (wrap64 (x5_2 + t112))) else (none)))) = some (r1, r2) := H
                      have A14 := Aside0.mk A140
                      clear A140
                      by_cases c15 : t112 = 0
                      · rw [if_pos c15] at H
                        have c15b0 : (t112 == 0) = true := beq_iff_eq.mpr c15
                        have c15b1 : (t112 != 0) = false := bne_eq_false_iff_eq.mpr c15
                        clear c15
                        simp only [Option.some.injEq, Prod.mk.injEq] at H
                        obtain ⟨rfl, rfl⟩ := H
                        go_wp2_with (first | ((with_reducible refine gate_callee (f := 60) rfl ?_); refine goesL_ (some 29) rfl rfl Tryd.func60 (by kernel_rfl) rfl #[.string (a0.extract (x5_2 : Int).toNat a0.size)] rfl (by (try simp only [List.map_toArray, List.map_cons, List.map_nil]); first | done | rfl | (simp only [List.length_drop, List.length_take]; rfl)) ?_; (with_reducible refine (lex_piece.calls kj6 (a0.extract (x5_2 : Int).toNat a0.size) t111 t112 _ A14.out).mono ?_); rintro e w' ⟨rfl, ⟨nd, rfl⟩⟩; refine ⟨_, rfl, ?_⟩))
                        go_ret2
                        exact ⟨by first | rfl | (simp [errW_none, errW_some] <;> rfl) | (simp [*, errW_none, errW_some] <;> rfl), by repeat (first | (with_reducible first | exact HB.out | apply below_alloc | apply pw_below_drewN | apply below_drew1) | exact HB.out)⟩
                      · rw [if_neg c15] at H
                        have c15b0 : (t112 == 0) = false := beq_eq_false_iff_ne.mpr c15
                        have c15b1 : (t112 != 0) = true := bne_iff_ne.mpr c15
                        by_cases c16 : (x4_2.length : Int) ≥ 4096
                        · rw [if_pos c16] at H
                          have c16b0 : decide (4096 ≤ (x4_2.length : Int)) = true := decide_eq_true c16
                          have c16b1 : decide (4096 ≤ x4_2.length) = true := decide_eq_true (by omega)
                          clear c16
                          simp only [Option.some.injEq, Prod.mk.injEq] at H
                          obtain ⟨rfl, rfl⟩ := H
                          go_wp2_with (first | ((with_reducible refine gate_callee (f := 60) rfl ?_); refine goesL_ (some 29) rfl rfl Tryd.func60 (by kernel_rfl) rfl #[.string (a0.extract (x5_2 : Int).toNat a0.size)] rfl (by (try simp only [List.map_toArray, List.map_cons, List.map_nil]); first | done | rfl | (simp only [List.length_drop, List.length_take]; rfl)) ?_; (with_reducible refine (lex_piece.calls kj6 (a0.extract (x5_2 : Int).toNat a0.size) t111 t112 _ A14.out).mono ?_); rintro e w' ⟨rfl, ⟨nd, rfl⟩⟩; refine ⟨_, rfl, ?_⟩; obtain ⟨Ao17, co17, eo17⟩ := Kd.R_slice HO_4.out; subst eo17))
                          go_ret2
                          exact ⟨by first | rfl | (simp [errW_none, errW_some] <;> rfl) | (simp [*, errW_none, errW_some] <;> rfl), by repeat (first | (with_reducible first | exact HB.out | apply below_alloc | apply pw_below_drewN | apply below_drew1) | exact HB.out)⟩
                        · rw [if_neg c16] at H
                          have c16b0 : decide (4096 ≤ (x4_2.length : Int)) = false := decide_eq_false c16
                          have c16b1 : decide (4096 ≤ x4_2.length) = false := decide_eq_false (by omega)
                          clear c16
                          by_cases c18 : x4_2.length < 140737488355328
                          · rw [if_pos c18] at H
                            have LMc18 := Aside0.mk c18
                            clear c18
                            obtain ⟨y113, hy113⟩ : ∃ y_ : List Int, y_ = (x4_2 ++ [t111]) := ⟨_, rfl⟩
                            replace H : (lex_quoted.l0 kj6 a0 y113 (wrap64 (x5_2 + t112))) = some (r1, r2) := by first | (rw [hy113]; with_reducible exact H) | (have H2_ := (Option.bind_some _ _).symm.trans H; rw [hy113]; with_reducible exact H2_) | (have H2_ := (Option.bind_some _ _).symm.trans H; with_reducible exact H2_) | with_reducible exact H | (rw [hy113]; exact H) | exact H
                            have Ny113 := Aside0.mk hy113
                            clear hy113
                            have H' := Aside0.mk H
                            clear H
                            go_wp2_with (first | ((with_reducible refine gate_callee (f := 60) rfl ?_); refine goesL_ (some 29) rfl rfl Tryd.func60 (by kernel_rfl) rfl #[.string (a0.extract (x5_2 : Int).toNat a0.size)] rfl (by (try simp only [List.map_toArray, List.map_cons, List.map_nil]); first | done | rfl | (simp only [List.length_drop, List.length_take]; rfl)) ?_; (with_reducible refine (lex_piece.calls kj6 (a0.extract (x5_2 : Int).toNat a0.size) t111 t112 _ A14.out).mono ?_); rintro e w' ⟨rfl, ⟨nd, rfl⟩⟩; refine ⟨_, rfl, ?_⟩; obtain ⟨Ao19, co19, eo19⟩ := Kd.R_slice HO_4.out; subst eo19) | ((with_reducible refine gate_builtin (b := .append) (xs := #[.tmp 39, .tmp 41]) rfl ?_); (try (refine gate_guard (by rfl) ?_; dsimp only)); at_builtin; refine Kd.R_append (Kd.int .u8) (w0 := w) w.heap.size rfl (.tmp 39) (.tmp 41) 51 5 (.int .u8 0) 1 rfl Tryd.underlying51 info5 rfl (by decide) (by omega) (.slice Ao19 x4_2.length co19) x4_2 t111 [.int .u8 t111] (fun _ => True) (fun _ => False) rfl rfl ?aP (fun _ hk => hk.elim) ?aF ?aO ?aB ?aS ?aL ?_; (case aP => exact rfl); (case aB => exact (by repeat (first | (with_reducible first | exact HB.out | apply below_alloc | apply pw_below_drewN | apply below_drew1) | exact HB.out))); (case aF => exact (fun _ _ => trivial)); (case aO => exact (by (with_reducible repeat (first | apply Kd.R_alloc | apply Kd.R_drewN | apply Kd.R_drew)); exact HO_4.out)); (case aS => exact (below_size (by repeat (first | (with_reducible first | exact HB.out | apply below_alloc | apply pw_below_drewN | apply below_drew1) | exact HB.out)))); (case aL => have := LMc18.out; omega); intro v114 w20 ho hb hg hat; rw [← Ny113.out] at ho; have n0_ := Aside0.mk (hb); have n1_ := Aside0.mk (ho); clear HB; clear HO_4; have HB := n0_; have HO115 := n1_; clear n0_ n1_; clear ho hb hg hat))
                            go_roundg kj6
                            case measure => have := HJ1.out; have := HK2.out; have := HJ6.out; omega
                            case rel => exact ⟨(y113), (wrap64 (x5_2 + t112)), (by first | rfl | (simp; done) | (simp [*]; done)), H', ⟨by have := HJ1.out; have := HK2.out; have := HJ6.out; omega⟩, ⟨by (with_reducible repeat (first | apply Kd.R_alloc | apply Kd.R_drewN | apply Kd.R_drew)); exact HO115.out⟩, ⟨by repeat (first | (with_reducible first | exact HB.out | apply below_alloc | apply pw_below_drewN | apply below_drew1) | exact HB.out)⟩⟩
                          · rw [if_neg c18] at H
                            exact absurd H (by simp)
                    · rw [if_neg c13] at H
                      exact absurd H (by simp)
                  · rw [if_neg c12] at H
                    exact absurd H (by simp)
                · replace c11 := Bool.eq_false_iff.mpr c11
                  subst c11
                  have H1 : (if x5_2 ≥ (a0.size : Int) then (some ((⟨#[]⟩ : ByteArray), 0)) else (some (strOfNums x4_2, wrap64 (x5_2 + 1)))) = some (r1, r2) := by rw [if_neg (show ¬ (false = true) by decide)] at H; exact H
                  clear H
                  have H := H1
                  clear H1
                  by_cases c21 : x5_2 ≥ (a0.size : Int)
                  · rw [if_pos c21] at H
                    have c21b0 : decide ((a0.size : Int) ≤ x5_2) = true := decide_eq_true c21
                    clear c21
                    simp only [Option.some.injEq, Prod.mk.injEq] at H
                    obtain ⟨rfl, rfl⟩ := H
                    go_wp2
                    go_ret2
                    exact ⟨by first | rfl | (simp [errW_none, errW_some] <;> rfl) | (simp [*, errW_none, errW_some] <;> rfl), by repeat (first | (with_reducible first | exact HB.out | apply below_alloc | apply pw_below_drewN | apply below_drew1) | exact HB.out)⟩
                  · rw [if_neg c21] at H
                    have c21b0 : decide ((a0.size : Int) ≤ x5_2) = false := decide_eq_false c21
                    clear c21
                    simp only [Option.some.injEq, Prod.mk.injEq] at H
                    obtain ⟨rfl, rfl⟩ := H
                    have hcv22 := own_string (P := Tryd.prog) Tryd.underlying51 Tryd.underlying5 Tryd.underlying9 (Kd.own_of_R HO_4.out)
                    go_wp2
                    go_ret2
                    exact ⟨by first | rfl | (simp [errW_none, errW_some] <;> rfl) | (simp [*, errW_none, errW_some] <;> rfl), by repeat (first | (with_reducible first | exact HB.out | apply below_alloc | apply pw_below_drewN | apply below_drew1) | exact HB.out)⟩
set_option maxHeartbeats 8000000 in
set_option maxRecDepth 100000 in
theorem lex_letter.calls (a0 : Int) (r : Bool) (w : World) (h : lex_letter.f a0 = some r) :
    Calls Tryd.prog 52 #[.int .u8 a0] w fun e w' => e = .returned (.bool r) ∧ Drawn0 w w' := by
  have H : (if a0 = 95 then (some true) else (if a0 ≥ 97 then (if a0 ≤ 122 then (some true) else (if a0 ≥ 65 then (some (decide (a0 ≤ 90))) else (some false))) else (if a0 ≥ 65 then (some (decide (a0 ≤ 90))) else (some false)))) = some r := h
  clear h
  by_cases c2 : a0 = 95
  · rw [if_pos c2] at H
    have c2b0 : (a0 == 95) = true := beq_iff_eq.mpr c2
    have c2b1 : (a0 != 95) = false := bne_eq_false_iff_eq.mpr c2
    clear c2
    obtain rfl := Option.some.inj H
    go_enter Tryd.func52, Tryd.ntmps52
    go_wp2
    go_ret
    exact ⟨by first | rfl | (simp; done) | (simp [*]; done), by repeat (first | exact Drawn0.refl _ | apply Drawn0.step)⟩
  · rw [if_neg c2] at H
    have c2b0 : (a0 == 95) = false := beq_eq_false_iff_ne.mpr c2
    have c2b1 : (a0 != 95) = true := bne_iff_ne.mpr c2
    by_cases c3 : a0 ≥ 97
    · rw [if_pos c3] at H
      have c3b0 : decide (97 ≤ a0) = true := decide_eq_true c3
      clear c3
      by_cases c4 : a0 ≤ 122
      · rw [if_pos c4] at H
        have c4b0 : decide (a0 ≤ 122) = true := decide_eq_true c4
        clear c4
        obtain rfl := Option.some.inj H
        go_enter Tryd.func52, Tryd.ntmps52
        go_wp2
        go_ret
        exact ⟨by first | rfl | (simp; done) | (simp [*]; done), by repeat (first | exact Drawn0.refl _ | apply Drawn0.step)⟩
      · rw [if_neg c4] at H
        have c4b0 : decide (a0 ≤ 122) = false := decide_eq_false c4
        clear c4
        by_cases c5 : a0 ≥ 65
        · rw [if_pos c5] at H
          have c5b0 : decide (65 ≤ a0) = true := decide_eq_true c5
          clear c5
          obtain rfl := Option.some.inj H
          go_enter Tryd.func52, Tryd.ntmps52
          go_wp2
          go_ret
          exact ⟨by first | rfl | (simp; done) | (simp [*]; done), by repeat (first | exact Drawn0.refl _ | apply Drawn0.step)⟩
        · rw [if_neg c5] at H
          have c5b0 : decide (65 ≤ a0) = false := decide_eq_false c5
          clear c5
          obtain rfl := Option.some.inj H
          go_enter Tryd.func52, Tryd.ntmps52
          go_wp2
          go_ret
          exact ⟨by first | rfl | (simp; done) | (simp [*]; done), by repeat (first | exact Drawn0.refl _ | apply Drawn0.step)⟩
    · rw [if_neg c3] at H
      have c3b0 : decide (97 ≤ a0) = false := decide_eq_false c3
      clear c3
      by_cases c6 : a0 ≥ 65
      · rw [if_pos c6] at H
        have c6b0 : decide (65 ≤ a0) = true := decide_eq_true c6
        clear c6
        obtain rfl := Option.some.inj H
        go_enter Tryd.func52, Tryd.ntmps52
        go_wp2
        go_ret
        exact ⟨by first | rfl | (simp; done) | (simp [*]; done), by repeat (first | exact Drawn0.refl _ | apply Drawn0.step)⟩
      · rw [if_neg c6] at H
        have c6b0 : decide (65 ≤ a0) = false := decide_eq_false c6
        clear c6
        obtain rfl := Option.some.inj H
        go_enter Tryd.func52, Tryd.ntmps52
        go_wp2
        go_ret
        exact ⟨by first | rfl | (simp; done) | (simp [*]; done), by repeat (first | exact Drawn0.refl _ | apply Drawn0.step)⟩
theorem pre_two (a0 : ByteArray) (t : List UInt8) (ht : t.length = 2) : strings_HasPrefix.f a0 ⟨t.toArray⟩ = some (decide (a0.data.toList.take 2 = t)) := by
  unfold strings_HasPrefix.f stringslite_HasPrefix.f
  have h1 : ((⟨t.toArray⟩ : ByteArray).size : Int) = 2 := by show ((t.toArray.size : Nat) : Int) = 2; simp [ht]
  have hl : a0.data.toList.length = a0.size := by obtain ⟨⟨l⟩⟩ := a0; rfl
  rw [h1]
  by_cases h : (a0.size : Int) ≥ 2
  · rw [if_pos h, if_pos (by omega), if_pos (by omega)]
    simp only [Option.bind_some]
    rw [ByteArray.toList_eq, ByteArray.toList_eq, Lib.extract_data]
    simp
    rw [Bool.eq_iff_iff]; simp
  · rw [if_neg h]
    simp only [Option.bind_some]
    have : a0.data.toList.take 2 ≠ t := by
      intro e
      have := congrArg List.length e
      rw [List.length_take] at this
      omega
    rw [decide_eq_false this]
theorem sign_any (a0 : ByteArray) (k : Nat) (h : ∀ x ∈ twoSigns.take k, a0.data.toList.take 2 ≠ x) (hk : 7 ≤ k) : twoSigns.any (fun t => decide (a0.data.toList.take 2 = t)) = false := by
  rw [List.take_of_length_le (by show 7 ≤ k; exact hk)] at h
  rw [List.any_eq_false]
  intro x hx
  simpa using h x hx
theorem sign_in (a0 : ByteArray) (x : List UInt8) (h : a0.data.toList.take 2 = x) (hx : x ∈ twoSigns) : twoSigns.any (fun t => decide (a0.data.toList.take 2 = t)) = true := by
  rw [List.any_eq_true]
  exact ⟨x, hx, by simpa using h⟩
theorem sign_next (a0 : ByteArray) (k : Nat) (x : List UInt8) (hx : twoSigns[k]? = some x) (h : ∀ x ∈ twoSigns.take k, a0.data.toList.take 2 ≠ x) (hn : a0.data.toList.take 2 ≠ x) : ∀ x ∈ twoSigns.take (k + 1), a0.data.toList.take 2 ≠ x := by
  intro y hy
  rw [List.take_add_one, hx] at hy
  simp only [Option.toList_some, List.mem_append, List.mem_singleton] at hy
  rcases hy with hy | rfl
  · exact h y hy
  · exact hn
set_option maxHeartbeats 8000000 in
set_option maxRecDepth 100000 in
theorem lex_sign.calls (a0 : ByteArray) (r : Int) (w : World) (h : lex_sign.f a0 = some r) :
    Calls Tryd.prog 55 #[.string a0] w fun e w' => e = .returned (.int .i64 r) ∧ Below w.heap.size w w' := by
  have H := Lib.hid h
  clear h
  go_enter Tryd.func55, Tryd.ntmps55
  go_wp2
  go_loopw [8] (fun i w' => ∃ k : Int, 0 ≤ k ∧ k ≤ 7 ∧ i = .int .i64 k ∧ Hid (∀ x ∈ twoSigns.take k.toNat, a0.data.toList.take 2 ≠ x) ∧ Aside0 (Below w.heap.size w w')) (fun i _ => 7 - (intOf i).toNat)
  case atStart => exact ⟨0, by omega, by omega, rfl, Lib.hid (by simp), ⟨(Below.refl _ _).alloc (Nat.le_refl _) _⟩⟩
  case round =>
    obtain ⟨k, hk0, hk, rfl, HN, HB⟩ := hrel
    by_cases hlt : k < 7
    · have hc : k = 0 ∨ k = 1 ∨ k = 2 ∨ k = 3 ∨ k = 4 ∨ k = 5 ∨ k = 6 := by omega
      clear hk hk0 hlt
      rcases hc with rfl | rfl | rfl | rfl | rfl | rfl | rfl
      · have hix : ∀ W : World, (Instr.index 78 (.agg #[.string ⟨#[61, 61]⟩, .string ⟨#[33, 61]⟩, .string ⟨#[60, 61]⟩, .string ⟨#[62, 61]⟩, .string ⟨#[43, 43]⟩, .string ⟨#[38, 38]⟩, .string ⟨#[124, 124]⟩]) (.int .i64 0)).run Tryd.prog W = .ok (.string ⟨#[61, 61]⟩) W := fun W => by rfl
        by_cases hq : a0.data.toList.take 2 = ([61, 61] : List UInt8)
        · have hp := pre_two a0 [61, 61] rfl
          rw [decide_eq_true hq] at hp
          have HQ := Lib.hid hq
          clear hq
          have HP := Lib.hid hp
          clear hp
          go_wp2_with (go_at_call 49; refine (strings_HasPrefix.calls _ _ true _ HP.out).mono ?_; rintro e w' ⟨rfl, ⟨nd, rfl⟩⟩)
          go_ret
          have h2 := H.out
          unfold lex_sign.f at h2
          rw [if_pos (sign_in a0 _ HQ.out (by decide))] at h2
          obtain rfl := Option.some.inj h2
          exact ⟨rfl, pw_below_drewN HB.out _⟩
        · have hp := pre_two a0 [61, 61] rfl
          rw [decide_eq_false hq] at hp
          have HQ := Lib.hid hq
          clear hq
          have HP := Lib.hid hp
          clear hp
          go_wp2_with (go_at_call 49; refine (strings_HasPrefix.calls _ _ false _ HP.out).mono ?_; rintro e w' ⟨rfl, ⟨nd, rfl⟩⟩)
          go_roundw
          case rel => exact ⟨1, by omega, by omega, by first | rfl | go_num, Lib.hid (sign_next a0 0 _ rfl HN.out HQ.out), ⟨pw_below_drewN HB.out _⟩⟩
          case measure => simp [intOf]
      · have hix : ∀ W : World, (Instr.index 78 (.agg #[.string ⟨#[61, 61]⟩, .string ⟨#[33, 61]⟩, .string ⟨#[60, 61]⟩, .string ⟨#[62, 61]⟩, .string ⟨#[43, 43]⟩, .string ⟨#[38, 38]⟩, .string ⟨#[124, 124]⟩]) (.int .i64 1)).run Tryd.prog W = .ok (.string ⟨#[33, 61]⟩) W := fun W => by rfl
        by_cases hq : a0.data.toList.take 2 = ([33, 61] : List UInt8)
        · have hp := pre_two a0 [33, 61] rfl
          rw [decide_eq_true hq] at hp
          have HQ := Lib.hid hq
          clear hq
          have HP := Lib.hid hp
          clear hp
          go_wp2_with (go_at_call 49; refine (strings_HasPrefix.calls _ _ true _ HP.out).mono ?_; rintro e w' ⟨rfl, ⟨nd, rfl⟩⟩)
          go_ret
          have h2 := H.out
          unfold lex_sign.f at h2
          rw [if_pos (sign_in a0 _ HQ.out (by decide))] at h2
          obtain rfl := Option.some.inj h2
          exact ⟨rfl, pw_below_drewN HB.out _⟩
        · have hp := pre_two a0 [33, 61] rfl
          rw [decide_eq_false hq] at hp
          have HQ := Lib.hid hq
          clear hq
          have HP := Lib.hid hp
          clear hp
          go_wp2_with (go_at_call 49; refine (strings_HasPrefix.calls _ _ false _ HP.out).mono ?_; rintro e w' ⟨rfl, ⟨nd, rfl⟩⟩)
          go_roundw
          case rel => exact ⟨2, by omega, by omega, by first | rfl | go_num, Lib.hid (sign_next a0 1 _ rfl HN.out HQ.out), ⟨pw_below_drewN HB.out _⟩⟩
          case measure => simp [intOf]
      · have hix : ∀ W : World, (Instr.index 78 (.agg #[.string ⟨#[61, 61]⟩, .string ⟨#[33, 61]⟩, .string ⟨#[60, 61]⟩, .string ⟨#[62, 61]⟩, .string ⟨#[43, 43]⟩, .string ⟨#[38, 38]⟩, .string ⟨#[124, 124]⟩]) (.int .i64 2)).run Tryd.prog W = .ok (.string ⟨#[60, 61]⟩) W := fun W => by rfl
        by_cases hq : a0.data.toList.take 2 = ([60, 61] : List UInt8)
        · have hp := pre_two a0 [60, 61] rfl
          rw [decide_eq_true hq] at hp
          have HQ := Lib.hid hq
          clear hq
          have HP := Lib.hid hp
          clear hp
          go_wp2_with (go_at_call 49; refine (strings_HasPrefix.calls _ _ true _ HP.out).mono ?_; rintro e w' ⟨rfl, ⟨nd, rfl⟩⟩)
          go_ret
          have h2 := H.out
          unfold lex_sign.f at h2
          rw [if_pos (sign_in a0 _ HQ.out (by decide))] at h2
          obtain rfl := Option.some.inj h2
          exact ⟨rfl, pw_below_drewN HB.out _⟩
        · have hp := pre_two a0 [60, 61] rfl
          rw [decide_eq_false hq] at hp
          have HQ := Lib.hid hq
          clear hq
          have HP := Lib.hid hp
          clear hp
          go_wp2_with (go_at_call 49; refine (strings_HasPrefix.calls _ _ false _ HP.out).mono ?_; rintro e w' ⟨rfl, ⟨nd, rfl⟩⟩)
          go_roundw
          case rel => exact ⟨3, by omega, by omega, by first | rfl | go_num, Lib.hid (sign_next a0 2 _ rfl HN.out HQ.out), ⟨pw_below_drewN HB.out _⟩⟩
          case measure => simp [intOf]
      · have hix : ∀ W : World, (Instr.index 78 (.agg #[.string ⟨#[61, 61]⟩, .string ⟨#[33, 61]⟩, .string ⟨#[60, 61]⟩, .string ⟨#[62, 61]⟩, .string ⟨#[43, 43]⟩, .string ⟨#[38, 38]⟩, .string ⟨#[124, 124]⟩]) (.int .i64 3)).run Tryd.prog W = .ok (.string ⟨#[62, 61]⟩) W := fun W => by rfl
        by_cases hq : a0.data.toList.take 2 = ([62, 61] : List UInt8)
        · have hp := pre_two a0 [62, 61] rfl
          rw [decide_eq_true hq] at hp
          have HQ := Lib.hid hq
          clear hq
          have HP := Lib.hid hp
          clear hp
          go_wp2_with (go_at_call 49; refine (strings_HasPrefix.calls _ _ true _ HP.out).mono ?_; rintro e w' ⟨rfl, ⟨nd, rfl⟩⟩)
          go_ret
          have h2 := H.out
          unfold lex_sign.f at h2
          rw [if_pos (sign_in a0 _ HQ.out (by decide))] at h2
          obtain rfl := Option.some.inj h2
          exact ⟨rfl, pw_below_drewN HB.out _⟩
        · have hp := pre_two a0 [62, 61] rfl
          rw [decide_eq_false hq] at hp
          have HQ := Lib.hid hq
          clear hq
          have HP := Lib.hid hp
          clear hp
          go_wp2_with (go_at_call 49; refine (strings_HasPrefix.calls _ _ false _ HP.out).mono ?_; rintro e w' ⟨rfl, ⟨nd, rfl⟩⟩)
          go_roundw
          case rel => exact ⟨4, by omega, by omega, by first | rfl | go_num, Lib.hid (sign_next a0 3 _ rfl HN.out HQ.out), ⟨pw_below_drewN HB.out _⟩⟩
          case measure => simp [intOf]
      · have hix : ∀ W : World, (Instr.index 78 (.agg #[.string ⟨#[61, 61]⟩, .string ⟨#[33, 61]⟩, .string ⟨#[60, 61]⟩, .string ⟨#[62, 61]⟩, .string ⟨#[43, 43]⟩, .string ⟨#[38, 38]⟩, .string ⟨#[124, 124]⟩]) (.int .i64 4)).run Tryd.prog W = .ok (.string ⟨#[43, 43]⟩) W := fun W => by rfl
        by_cases hq : a0.data.toList.take 2 = ([43, 43] : List UInt8)
        · have hp := pre_two a0 [43, 43] rfl
          rw [decide_eq_true hq] at hp
          have HQ := Lib.hid hq
          clear hq
          have HP := Lib.hid hp
          clear hp
          go_wp2_with (go_at_call 49; refine (strings_HasPrefix.calls _ _ true _ HP.out).mono ?_; rintro e w' ⟨rfl, ⟨nd, rfl⟩⟩)
          go_ret
          have h2 := H.out
          unfold lex_sign.f at h2
          rw [if_pos (sign_in a0 _ HQ.out (by decide))] at h2
          obtain rfl := Option.some.inj h2
          exact ⟨rfl, pw_below_drewN HB.out _⟩
        · have hp := pre_two a0 [43, 43] rfl
          rw [decide_eq_false hq] at hp
          have HQ := Lib.hid hq
          clear hq
          have HP := Lib.hid hp
          clear hp
          go_wp2_with (go_at_call 49; refine (strings_HasPrefix.calls _ _ false _ HP.out).mono ?_; rintro e w' ⟨rfl, ⟨nd, rfl⟩⟩)
          go_roundw
          case rel => exact ⟨5, by omega, by omega, by first | rfl | go_num, Lib.hid (sign_next a0 4 _ rfl HN.out HQ.out), ⟨pw_below_drewN HB.out _⟩⟩
          case measure => simp [intOf]
      · have hix : ∀ W : World, (Instr.index 78 (.agg #[.string ⟨#[61, 61]⟩, .string ⟨#[33, 61]⟩, .string ⟨#[60, 61]⟩, .string ⟨#[62, 61]⟩, .string ⟨#[43, 43]⟩, .string ⟨#[38, 38]⟩, .string ⟨#[124, 124]⟩]) (.int .i64 5)).run Tryd.prog W = .ok (.string ⟨#[38, 38]⟩) W := fun W => by rfl
        by_cases hq : a0.data.toList.take 2 = ([38, 38] : List UInt8)
        · have hp := pre_two a0 [38, 38] rfl
          rw [decide_eq_true hq] at hp
          have HQ := Lib.hid hq
          clear hq
          have HP := Lib.hid hp
          clear hp
          go_wp2_with (go_at_call 49; refine (strings_HasPrefix.calls _ _ true _ HP.out).mono ?_; rintro e w' ⟨rfl, ⟨nd, rfl⟩⟩)
          go_ret
          have h2 := H.out
          unfold lex_sign.f at h2
          rw [if_pos (sign_in a0 _ HQ.out (by decide))] at h2
          obtain rfl := Option.some.inj h2
          exact ⟨rfl, pw_below_drewN HB.out _⟩
        · have hp := pre_two a0 [38, 38] rfl
          rw [decide_eq_false hq] at hp
          have HQ := Lib.hid hq
          clear hq
          have HP := Lib.hid hp
          clear hp
          go_wp2_with (go_at_call 49; refine (strings_HasPrefix.calls _ _ false _ HP.out).mono ?_; rintro e w' ⟨rfl, ⟨nd, rfl⟩⟩)
          go_roundw
          case rel => exact ⟨6, by omega, by omega, by first | rfl | go_num, Lib.hid (sign_next a0 5 _ rfl HN.out HQ.out), ⟨pw_below_drewN HB.out _⟩⟩
          case measure => simp [intOf]
      · have hix : ∀ W : World, (Instr.index 78 (.agg #[.string ⟨#[61, 61]⟩, .string ⟨#[33, 61]⟩, .string ⟨#[60, 61]⟩, .string ⟨#[62, 61]⟩, .string ⟨#[43, 43]⟩, .string ⟨#[38, 38]⟩, .string ⟨#[124, 124]⟩]) (.int .i64 6)).run Tryd.prog W = .ok (.string ⟨#[124, 124]⟩) W := fun W => by rfl
        by_cases hq : a0.data.toList.take 2 = ([124, 124] : List UInt8)
        · have hp := pre_two a0 [124, 124] rfl
          rw [decide_eq_true hq] at hp
          have HQ := Lib.hid hq
          clear hq
          have HP := Lib.hid hp
          clear hp
          go_wp2_with (go_at_call 49; refine (strings_HasPrefix.calls _ _ true _ HP.out).mono ?_; rintro e w' ⟨rfl, ⟨nd, rfl⟩⟩)
          go_ret
          have h2 := H.out
          unfold lex_sign.f at h2
          rw [if_pos (sign_in a0 _ HQ.out (by decide))] at h2
          obtain rfl := Option.some.inj h2
          exact ⟨rfl, pw_below_drewN HB.out _⟩
        · have hp := pre_two a0 [124, 124] rfl
          rw [decide_eq_false hq] at hp
          have HQ := Lib.hid hq
          clear hq
          have HP := Lib.hid hp
          clear hp
          go_wp2_with (go_at_call 49; refine (strings_HasPrefix.calls _ _ false _ HP.out).mono ?_; rintro e w' ⟨rfl, ⟨nd, rfl⟩⟩)
          go_roundw
          case rel => exact ⟨7, by omega, by omega, by first | rfl | go_num, Lib.hid (sign_next a0 6 _ rfl HN.out HQ.out), ⟨pw_below_drewN HB.out _⟩⟩
          case measure => simp [intOf]
    · have hk7 : k = 7 := by omega
      subst hk7
      clear hlt hk hk0
      have h2 := H.out
      unfold lex_sign.f at h2
      rw [if_neg (by rw [sign_any a0 7 HN.out (by omega)]; decide)] at h2
      by_cases hz : a0.size = 0
      · rw [if_pos hz] at h2; cases h2
      · rw [if_neg hz] at h2
        have hz0 : 0 < a0.size := by omega
        have hx3 : ∀ h : 0 < a0.size, ((a0[0]'h).toNat : Int) = bt a0 0 := bt_at a0 0
        have qi3 : (0 < (a0.size : Int)) = True := eq_true (by omega)
        have hz1 : (0 < a0.size) = True := eq_true hz0
        have hc : strings_IndexByte.f ⟨oneSigns.toArray⟩ (bt a0 0) = some (Lib.indexByte oneSigns ((bt a0 0).toNat.toUInt8)) := rfl
        have HC := Lib.hid hc
        clear hc hz hz0
        have h0 := bt_range a0 0
        by_cases hi : Lib.indexByte oneSigns ((bt a0 0).toNat.toUInt8) ≥ 0
        · rw [if_pos hi] at h2
          obtain rfl := Option.some.inj h2
          have hi2 : decide (0 ≤ Lib.indexByte oneSigns ((bt a0 0).toNat.toUInt8)) = true := decide_eq_true hi
          clear hi h2
          go_wp2_with (go_at_call 48; refine (strings_IndexByte.calls _ (bt a0 0) _ _ HC.out).mono ?_; rintro e w' ⟨rfl, ⟨nd, rfl⟩⟩)
          go_ret
          exact ⟨rfl, pw_below_drewN HB.out _⟩
        · rw [if_neg hi] at h2
          obtain rfl := Option.some.inj h2
          have hi2 : decide (0 ≤ Lib.indexByte oneSigns ((bt a0 0).toNat.toUInt8)) = false := decide_eq_false hi
          clear hi h2
          go_wp2_with (go_at_call 48; refine (strings_IndexByte.calls _ (bt a0 0) _ _ HC.out).mono ?_; rintro e w' ⟨rfl, ⟨nd, rfl⟩⟩)
          go_ret
          exact ⟨rfl, pw_below_drewN HB.out _⟩
end Go.Proofs.YtflmcglppeehgaaDoor.P
