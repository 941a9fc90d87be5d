import Derived.Test.YtifachjefpcgcaaDoorEPD
import Derived.Test.YtifachjefpcgcaaDoorEP3
import Derived.Test.YtifachjefpcgcaaDoorEP5
import Derived.Test.YtifachjefpcgcaaDoorEP6
namespace Go.Proofs.YtifachjefpcgcaaDoor.P
open Go.RowKit Go.Proofs.YtifachjefpcgcaaDoorW.PrintWords Go.Proofs.YtifachjefpcgcaaDoorW.PrintLast Go.Proofs.YtifachjefpcgcaaDoorW.PrintMore
attribute [local go_sem] max2_int min2_int max_two min_two max_three min_three max_four min_four
set_option linter.unusedVariables false
set_option linter.unusedSimpArgs false
theorem pre_two (a0 : ByteArray) (t : List UInt8) (ht : t.length = 2) : strings_HasPrefix.f a0 ⟨t.toArray⟩ = some (decide (a0.data.toList.take 2 = t)) := by
 unfold strings_HasPrefix.f stringslite_HasPrefix.f
 have h1 : ((⟨t.toArray⟩ : ByteArray).size : Int) = 2 := by show ((t.toArray.size : Nat) : Int) = 2; simp [ht]
 have hl : a0.data.toList.length = a0.size := by obtain ⟨⟨l⟩⟩ := a0; rfl
 rw [h1]
 by_cases h : (a0.size : Int) ≥ 2
 ·rw [if_pos h, if_pos (by omega), if_pos (by omega)]
  simp only [Option.bind_some]
  rw [ByteArray.toList_eq, ByteArray.toList_eq, Lib.extract_data]
  simp
  rw [Bool.eq_iff_iff]; simp
 ·rw [if_neg h]
  simp only [Option.bind_some]
  have : a0.data.toList.take 2 ≠ t := by
   intro e
   have := congrArg List.length e
   rw [List.length_take] at this
   omega
  rw [decide_eq_false this]
theorem sign_any (a0 : ByteArray) (k : Nat) (h : ∀ x ∈ twoSigns.take k, a0.data.toList.take 2 ≠ x) (hk : 7 ≤ k) : twoSigns.any (fun t => decide (a0.data.toList.take 2 = t)) = false := by
 rw [List.take_of_length_le (by show 7 ≤ k; exact hk)] at h
 rw [List.any_eq_false]
 intro x hx
 simpa using h x hx
theorem sign_in (a0 : ByteArray) (x : List UInt8) (h : a0.data.toList.take 2 = x) (hx : x ∈ twoSigns) : twoSigns.any (fun t => decide (a0.data.toList.take 2 = t)) = true := by
 rw [List.any_eq_true]
 exact ⟨x, hx, by simpa using h⟩
theorem sign_next (a0 : ByteArray) (k : Nat) (x : List UInt8) (hx : twoSigns[k]? = some x) (h : ∀ x ∈ twoSigns.take k, a0.data.toList.take 2 ≠ x) (hn : a0.data.toList.take 2 ≠ x) : ∀ x ∈ twoSigns.take (k + 1), a0.data.toList.take 2 ≠ x := by
 intro y hy
 rw [List.take_add_one, hx] at hy
 simp only [Option.toList_some, List.mem_append, List.mem_singleton] at hy
 rcases hy with hy | rfl
 ·exact h y hy
 ·exact hn
set_option maxHeartbeats 8000000 in
set_option maxRecDepth 100000 in
theorem lex_sign.calls (a0 : ByteArray) (r : Int) (w : World) (h : lex_sign.f a0 = some r) :
  Calls Tryd.prog 53 #[.string a0] w fun e w' => e = .returned (.int .i64 r) ∧ Below w.heap.size w w' := by
 have H := Lib.hid h
 clear h
 go_enter Tryd.func53, Tryd.ntmps53
 go_wp2
 go_loopw [8] (fun i w' => ∃ k : Int, 0 ≤ k ∧ k ≤ 7 ∧ i = .int .i64 k ∧ Hid (∀ x ∈ twoSigns.take k.toNat, a0.data.toList.take 2 ≠ x) ∧ Aside0 (Below w.heap.size w w')) (fun i _ => 7 - (intOf i).toNat)
 case atStart => exact ⟨0, by omega, by omega, rfl, Lib.hid (by simp), ⟨(Below.refl _ _).alloc (Nat.le_refl _) _⟩⟩
 case round =>
  obtain ⟨k, hk0, hk, rfl, HN, HB⟩ := hrel
  by_cases hlt : k < 7
  ·have hc : k = 0 ∨ k = 1 ∨ k = 2 ∨ k = 3 ∨ k = 4 ∨ k = 5 ∨ k = 6 := by omega
   clear hk hk0 hlt
   rcases hc with rfl | rfl | rfl | rfl | rfl | rfl | rfl
   ·have hix : ∀ W : World, (Instr.index 92 (.agg #[.string ⟨#[61, 61]⟩, .string ⟨#[33, 61]⟩, .string ⟨#[60, 61]⟩, .string ⟨#[62, 61]⟩, .string ⟨#[43, 43]⟩, .string ⟨#[38, 38]⟩, .string ⟨#[124, 124]⟩]) (.int .i64 0)).run Tryd.prog W = .ok (.string ⟨#[61, 61]⟩) W := fun W => by rfl
    by_cases hq : a0.data.toList.take 2 = ([61, 61] : List UInt8)
    ·have hp := pre_two a0 [61, 61] rfl
     rw [decide_eq_true hq] at hp
     have HQ := Lib.hid hq
     clear hq
     have HP := Lib.hid hp
     clear hp
     go_wp2_with (go_at_call 55; refine (strings_HasPrefix.calls _ _ true _ HP.out).mono ?_; rintro e w' ⟨rfl, ⟨nd, rfl⟩⟩)
     go_ret
     have h2 := H.out
     unfold lex_sign.f at h2
     rw [if_pos (sign_in a0 _ HQ.out (by decide))] at h2
     obtain rfl := Option.some.inj h2
     exact ⟨rfl, pw_below_drewN HB.out _⟩
    ·have hp := pre_two a0 [61, 61] rfl
     rw [decide_eq_false hq] at hp
     have HQ := Lib.hid hq
     clear hq
     have HP := Lib.hid hp
     clear hp
     go_wp2_with (go_at_call 55; refine (strings_HasPrefix.calls _ _ false _ HP.out).mono ?_; rintro e w' ⟨rfl, ⟨nd, rfl⟩⟩)
     go_roundw
     case rel => exact ⟨1, by omega, by omega, by first | rfl | go_num, Lib.hid (sign_next a0 0 _ rfl HN.out HQ.out), ⟨pw_below_drewN HB.out _⟩⟩
     case measure => simp [intOf]
   ·have hix : ∀ W : World, (Instr.index 92 (.agg #[.string ⟨#[61, 61]⟩, .string ⟨#[33, 61]⟩, .string ⟨#[60, 61]⟩, .string ⟨#[62, 61]⟩, .string ⟨#[43, 43]⟩, .string ⟨#[38, 38]⟩, .string ⟨#[124, 124]⟩]) (.int .i64 1)).run Tryd.prog W = .ok (.string ⟨#[33, 61]⟩) W := fun W => by rfl
    by_cases hq : a0.data.toList.take 2 = ([33, 61] : List UInt8)
    ·have hp := pre_two a0 [33, 61] rfl
     rw [decide_eq_true hq] at hp
     have HQ := Lib.hid hq
     clear hq
     have HP := Lib.hid hp
     clear hp
     go_wp2_with (go_at_call 55; refine (strings_HasPrefix.calls _ _ true _ HP.out).mono ?_; rintro e w' ⟨rfl, ⟨nd, rfl⟩⟩)
     go_ret
     have h2 := H.out
     unfold lex_sign.f at h2
     rw [if_pos (sign_in a0 _ HQ.out (by decide))] at h2
     obtain rfl := Option.some.inj h2
     exact ⟨rfl, pw_below_drewN HB.out _⟩
    ·have hp := pre_two a0 [33, 61] rfl
     rw [decide_eq_false hq] at hp
     have HQ := Lib.hid hq
     clear hq
     have HP := Lib.hid hp
     clear hp
     go_wp2_with (go_at_call 55; refine (strings_HasPrefix.calls _ _ false _ HP.out).mono ?_; rintro e w' ⟨rfl, ⟨nd, rfl⟩⟩)
     go_roundw
     case rel => exact ⟨2, by omega, by omega, by first | rfl | go_num, Lib.hid (sign_next a0 1 _ rfl HN.out HQ.out), ⟨pw_below_drewN HB.out _⟩⟩
     case measure => simp [intOf]
   ·have hix : ∀ W : World, (Instr.index 92 (.agg #[.string ⟨#[61, 61]⟩, .string ⟨#[33, 61]⟩, .string ⟨#[60, 61]⟩, .string ⟨#[62, 61]⟩, .string ⟨#[43, 43]⟩, .string ⟨#[38, 38]⟩, .string ⟨#[124, 124]⟩]) (.int .i64 2)).run Tryd.prog W = .ok (.string ⟨#[60, 61]⟩) W := fun W => by rfl
    by_cases hq : a0.data.toList.take 2 = ([60, 61] : List UInt8)
    ·have hp := pre_two a0 [60, 61] rfl
     rw [decide_eq_true hq] at hp
     have HQ := Lib.hid hq
     clear hq
     have HP := Lib.hid hp
     clear hp
     go_wp2_with (go_at_call 55; refine (strings_HasPrefix.calls _ _ true _ HP.out).mono ?_; rintro e w' ⟨rfl, ⟨nd, rfl⟩⟩)
     go_ret
     have h2 := H.out
     unfold lex_sign.f at h2
     rw [if_pos (sign_in a0 _ HQ.out (by decide))] at h2
     obtain rfl := Option.some.inj h2
     exact ⟨rfl, pw_below_drewN HB.out _⟩
    ·have hp := pre_two a0 [60, 61] rfl
     rw [decide_eq_false hq] at hp
     have HQ := Lib.hid hq
     clear hq
     have HP := Lib.hid hp
     clear hp
     go_wp2_with (go_at_call 55; refine (strings_HasPrefix.calls _ _ false _ HP.out).mono ?_; rintro e w' ⟨rfl, ⟨nd, rfl⟩⟩)
     go_roundw
     case rel => exact ⟨3, by omega, by omega, by first | rfl | go_num, Lib.hid (sign_next a0 2 _ rfl HN.out HQ.out), ⟨pw_below_drewN HB.out _⟩⟩
     case measure => simp [intOf]
   ·have hix : ∀ W : World, (Instr.index 92 (.agg #[.string ⟨#[61, 61]⟩, .string ⟨#[33, 61]⟩, .string ⟨#[60, 61]⟩, .string ⟨#[62, 61]⟩, .string ⟨#[43, 43]⟩, .string ⟨#[38, 38]⟩, .string ⟨#[124, 124]⟩]) (.int .i64 3)).run Tryd.prog W = .ok (.string ⟨#[62, 61]⟩) W := fun W => by rfl
    by_cases hq : a0.data.toList.take 2 = ([62, 61] : List UInt8)
    ·have hp := pre_two a0 [62, 61] rfl
     rw [decide_eq_true hq] at hp
     have HQ := Lib.hid hq
     clear hq
     have HP := Lib.hid hp
     clear hp
     go_wp2_with (go_at_call 55; refine (strings_HasPrefix.calls _ _ true _ HP.out).mono ?_; rintro e w' ⟨rfl, ⟨nd, rfl⟩⟩)
     go_ret
     have h2 := H.out
     unfold lex_sign.f at h2
     rw [if_pos (sign_in a0 _ HQ.out (by decide))] at h2
     obtain rfl := Option.some.inj h2
     exact ⟨rfl, pw_below_drewN HB.out _⟩
    ·have hp := pre_two a0 [62, 61] rfl
     rw [decide_eq_false hq] at hp
     have HQ := Lib.hid hq
     clear hq
     have HP := Lib.hid hp
     clear hp
     go_wp2_with (go_at_call 55; refine (strings_HasPrefix.calls _ _ false _ HP.out).mono ?_; rintro e w' ⟨rfl, ⟨nd, rfl⟩⟩)
     go_roundw
     case rel => exact ⟨4, by omega, by omega, by first | rfl | go_num, Lib.hid (sign_next a0 3 _ rfl HN.out HQ.out), ⟨pw_below_drewN HB.out _⟩⟩
     case measure => simp [intOf]
   ·have hix : ∀ W : World, (Instr.index 92 (.agg #[.string ⟨#[61, 61]⟩, .string ⟨#[33, 61]⟩, .string ⟨#[60, 61]⟩, .string ⟨#[62, 61]⟩, .string ⟨#[43, 43]⟩, .string ⟨#[38, 38]⟩, .string ⟨#[124, 124]⟩]) (.int .i64 4)).run Tryd.prog W = .ok (.string ⟨#[43, 43]⟩) W := fun W => by rfl
    by_cases hq : a0.data.toList.take 2 = ([43, 43] : List UInt8)
    ·have hp := pre_two a0 [43, 43] rfl
     rw [decide_eq_true hq] at hp
     have HQ := Lib.hid hq
     clear hq
     have HP := Lib.hid hp
     clear hp
     go_wp2_with (go_at_call 55; refine (strings_HasPrefix.calls _ _ true _ HP.out).mono ?_; rintro e w' ⟨rfl, ⟨nd, rfl⟩⟩)
     go_ret
     have h2 := H.out
     unfold lex_sign.f at h2
     rw [if_pos (sign_in a0 _ HQ.out (by decide))] at h2
     obtain rfl := Option.some.inj h2
     exact ⟨rfl, pw_below_drewN HB.out _⟩
    ·have hp := pre_two a0 [43, 43] rfl
     rw [decide_eq_false hq] at hp
     have HQ := Lib.hid hq
     clear hq
     have HP := Lib.hid hp
     clear hp
     go_wp2_with (go_at_call 55; refine (strings_HasPrefix.calls _ _ false _ HP.out).mono ?_; rintro e w' ⟨rfl, ⟨nd, rfl⟩⟩)
     go_roundw
     case rel => exact ⟨5, by omega, by omega, by first | rfl | go_num, Lib.hid (sign_next a0 4 _ rfl HN.out HQ.out), ⟨pw_below_drewN HB.out _⟩⟩
     case measure => simp [intOf]
   ·have hix : ∀ W : World, (Instr.index 92 (.agg #[.string ⟨#[61, 61]⟩, .string ⟨#[33, 61]⟩, .string ⟨#[60, 61]⟩, .string ⟨#[62, 61]⟩, .string ⟨#[43, 43]⟩, .string ⟨#[38, 38]⟩, .string ⟨#[124, 124]⟩]) (.int .i64 5)).run Tryd.prog W = .ok (.string ⟨#[38, 38]⟩) W := fun W => by rfl
    by_cases hq : a0.data.toList.take 2 = ([38, 38] : List UInt8)
    ·have hp := pre_two a0 [38, 38] rfl
     rw [decide_eq_true hq] at hp
     have HQ := Lib.hid hq
     clear hq
     have HP := Lib.hid hp
     clear hp
     go_wp2_with (go_at_call 55; refine (strings_HasPrefix.calls _ _ true _ HP.out).mono ?_; rintro e w' ⟨rfl, ⟨nd, rfl⟩⟩)
     go_ret
     have h2 := H.out
     unfold lex_sign.f at h2
     rw [if_pos (sign_in a0 _ HQ.out (by decide))] at h2
     obtain rfl := Option.some.inj h2
     exact ⟨rfl, pw_below_drewN HB.out _⟩
    ·have hp := pre_two a0 [38, 38] rfl
     rw [decide_eq_false hq] at hp
     have HQ := Lib.hid hq
     clear hq
     have HP := Lib.hid hp
     clear hp
     go_wp2_with (go_at_call 55; refine (strings_HasPrefix.calls _ _ false _ HP.out).mono ?_; rintro e w' ⟨rfl, ⟨nd, rfl⟩⟩)
     go_roundw
     case rel => exact ⟨6, by omega, by omega, by first | rfl | go_num, Lib.hid (sign_next a0 5 _ rfl HN.out HQ.out), ⟨pw_below_drewN HB.out _⟩⟩
     case measure => simp [intOf]
   ·have hix : ∀ W : World, (Instr.index 92 (.agg #[.string ⟨#[61, 61]⟩, .string ⟨#[33, 61]⟩, .string ⟨#[60, 61]⟩, .string ⟨#[62, 61]⟩, .string ⟨#[43, 43]⟩, .string ⟨#[38, 38]⟩, .string ⟨#[124, 124]⟩]) (.int .i64 6)).run Tryd.prog W = .ok (.string ⟨#[124, 124]⟩) W := fun W => by rfl
    by_cases hq : a0.data.toList.take 2 = ([124, 124] : List UInt8)
    ·have hp := pre_two a0 [124, 124] rfl
     rw [decide_eq_true hq] at hp
     have HQ := Lib.hid hq
     clear hq
     have HP := Lib.hid hp
     clear hp
     go_wp2_with (go_at_call 55; refine (strings_HasPrefix.calls _ _ true _ HP.out).mono ?_; rintro e w' ⟨rfl, ⟨nd, rfl⟩⟩)
     go_ret
     have h2 := H.out
     unfold lex_sign.f at h2
     rw [if_pos (sign_in a0 _ HQ.out (by decide))] at h2
     obtain rfl := Option.some.inj h2
     exact ⟨rfl, pw_below_drewN HB.out _⟩
    ·have hp := pre_two a0 [124, 124] rfl
     rw [decide_eq_false hq] at hp
     have HQ := Lib.hid hq
     clear hq
     have HP := Lib.hid hp
     clear hp
     go_wp2_with (go_at_call 55; refine (strings_HasPrefix.calls _ _ false _ HP.out).mono ?_; rintro e w' ⟨rfl, ⟨nd, rfl⟩⟩)
     go_roundw
     case rel => exact ⟨7, by omega, by omega, by first | rfl | go_num, Lib.hid (sign_next a0 6 _ rfl HN.out HQ.out), ⟨pw_below_drewN HB.out _⟩⟩
     case measure => simp [intOf]
  ·have hk7 : k = 7 := by omega
   subst hk7
   clear hlt hk hk0
   have h2 := H.out
   unfold lex_sign.f at h2
   rw [if_neg (by rw [sign_any a0 7 HN.out (by omega)]; decide)] at h2
   by_cases hz : a0.size = 0
   ·rw [if_pos hz] at h2; cases h2
   ·rw [if_neg hz] at h2
    have hz0 : 0 < a0.size := by omega
    have hx3 : ∀ h : 0 < a0.size, ((a0[0]'h).toNat : Int) = bt a0 0 := bt_at a0 0
    have qi3 : (0 < (a0.size : Int)) = True := eq_true (by omega)
    have hz1 : (0 < a0.size) = True := eq_true hz0
    have hc : strings_IndexByte.f ⟨oneSigns.toArray⟩ (bt a0 0) = some (Lib.indexByte oneSigns ((bt a0 0).toNat.toUInt8)) := rfl
    have HC := Lib.hid hc
    clear hc hz hz0
    have h0 := bt_range a0 0
    by_cases hi : Lib.indexByte oneSigns ((bt a0 0).toNat.toUInt8) ≥ 0
    ·rw [if_pos hi] at h2
     obtain rfl := Option.some.inj h2
     have hi2 : decide (0 ≤ Lib.indexByte oneSigns ((bt a0 0).toNat.toUInt8)) = true := decide_eq_true hi
     clear hi h2
     go_wp2_with (go_at_call 54; refine (strings_IndexByte.calls _ (bt a0 0) _ _ HC.out).mono ?_; rintro e w' ⟨rfl, ⟨nd, rfl⟩⟩)
     go_ret
     exact ⟨rfl, pw_below_drewN HB.out _⟩
    ·rw [if_neg hi] at h2
     obtain rfl := Option.some.inj h2
     have hi2 : decide (0 ≤ Lib.indexByte oneSigns ((bt a0 0).toNat.toUInt8)) = false := decide_eq_false hi
     clear hi h2
     go_wp2_with (go_at_call 54; refine (strings_IndexByte.calls _ (bt a0 0) _ _ HC.out).mono ?_; rintro e w' ⟨rfl, ⟨nd, rfl⟩⟩)
     go_ret
     exact ⟨rfl, pw_below_drewN HB.out _⟩
set_option maxHeartbeats 8000000 in
set_option maxRecDepth 100000 in
theorem lex_token.calls (k : Nat) (a0 : ByteArray) (r1 : Int) (r2 : Int) (r3 : Int) (w : World) (h : lex_token.f k a0 = some (r1, r2, r3)) (hI_ : Inv w) :
  Calls Tryd.prog 36 #[.string a0] w fun e w' => e = .returned (.tuple #[.int .i64 r1, .int .i64 r2, .int .i64 r3]) ∧ Below w.heap.size w w' := by
 have HI := Aside0.mk hI_
 clear hI_
 have HB := Aside0.mk (Below.refl w.heap.size w)
 have H : (if 0 < (a0.size : Int) then ((lex_letter.f (bt a0 0)).bind fun t113 => (if t113 = true then ((lex_run.f a0 0 49).bind fun t114 => (if t114 > 32 then (some (0, 0, 123)) else (if 0 ≤ t114 then (if t114 ≤ (a0.size : Int) then ((lex_Key.f (a0.extract 0 (t114 : Int).toNat)).bind fun t115 => (if t115 = true then (some (4, t114, 0)) else (some (1, t114, 0)))) else (none)) else (none)))) else ((lex_digit.f (bt a0 0)).bind fun t116 => (if t116 = true then ((lex_run.f a0 0 50).bind fun t117 => (if 0 ≤ t117 then (if t117 ≤ (a0.size : Int) then ((lex_whole.f (a0.extract 0 (t117 : Int).toNat)).bind fun bt118 => (if bt118.2 = true then (if t117 < (a0.size : Int) then ((lex_letter.f (bt a0 t117)).bind fun t120 => (lex_token.j0 k t117 t120)) else (lex_token.j0 k t117 false)) else (lex_token.j0 k t117 true))) else (none)) else (none))) else (if (bt a0 0) = 34 then ((lex_quoted.f k a0).bind fun bt121 => (if bt121.2 = 0 then (some (0, 0, 122)) else (some (3, bt121.2, 0)))) else ((lex_sign.f a0).bind fun t123 => (if t123 = 0 then (some (0, 0, 120)) else (some (5, t123, 0))))))))) else (none)) = some (r1, r2, r3) := h
 clear h
 by_cases c2 : 0 < (a0.size : Int)
 ·rw [if_pos c2] at H
  have c2b0 : decide (0 < (a0.size : Int)) = true := decide_eq_true c2
  have c2b1 : decide (0 < a0.size) = true := decide_eq_true (by omega)
  clear c2
  replace H := Option.bind_eq_some_iff.mp H
  obtain ⟨t113, A40, H⟩ := H
  replace H : (if t113 = true then ((lex_run.f a0 0 49).bind fun t114 => (if t114 > 32 then (some (0, 0, 123)) else (if 0 ≤ t114 then (if t114 ≤ (a0.size : Int) then ((lex_Key.f (a0.extract 0 (t114 : Int).toNat)).bind fun t115 => (if t115 = true then (some (4, t114, 0)) else (some (1, t114, 0)))) else (none)) else (none)))) else ((lex_digit.f (bt a0 0)).bind fun t116 => (if t116 = true then ((lex_run.f a0 0 50).bind fun t117 => (if 0 ≤ t117 then (if t117 ≤ (a0.size : Int) then ((lex_whole.f (a0.extract 0 (t117 : Int).toNat)).bind fun bt118 => (if bt118.2 = true then (if t117 < (a0.size : Int) then ((lex_letter.f (bt a0 t117)).bind fun t120 => (lex_token.j0 k t117 t120)) else (lex_token.j0 k t117 false)) else (lex_token.j0 k t117 true))) else (none)) else (none))) else (if (bt a0 0) = 34 then ((lex_quoted.f k a0).bind fun bt121 => (if bt121.2 = 0 then (some (0, 0, 122)) else (some (3, bt121.2, 0)))) else ((lex_sign.f a0).bind fun t123 => (if t123 = 0 then (some (0, 0, 120)) else (some (5, t123, 0)))))))) = some (r1, r2, r3) := H
  have A4 := Aside0.mk A40
  clear A40
  by_cases c5 : t113 = true
  ·subst c5
   have H1 : ((lex_run.f a0 0 49).bind fun t114 => (if t114 > 32 then (some (0, 0, 123)) else (if 0 ≤ t114 then (if t114 ≤ (a0.size : Int) then ((lex_Key.f (a0.extract 0 (t114 : Int).toNat)).bind fun t115 => (if t115 = true then (some (4, t114, 0)) else (some (1, t114, 0)))) else (none)) else (none)))) = some (r1, r2, r3) := by rw [if_pos rfl] at H; exact H
   clear H
   have H := H1
   clear H1
   replace H := Option.bind_eq_some_iff.mp H
   obtain ⟨t114, A60, H⟩ := H
   replace H : (if t114 > 32 then (some (0, 0, 123)) else (if 0 ≤ t114 then (if t114 ≤ (a0.size : Int) then ((lex_Key.f (a0.extract 0 (t114 : Int).toNat)).bind fun t115 => (if t115 = true then (some (4, t114, 0)) else (some (1, t114, 0)))) else (none)) else (none))) = some (r1, r2, r3) := H
   have A6 := Aside0.mk A60
   clear A60
   by_cases c7 : t114 > 32
   ·rw [if_pos c7] at H
    have c7b0 : decide (32 < t114) = true := decide_eq_true c7
    clear c7
    simp only [Option.some.injEq, Prod.mk.injEq] at H
    obtain ⟨rfl, rfl, rfl⟩ := H
    have p3 : 0 ≤ (0 : Int) := (by omega)
    have q3 : 0 < a0.size := (by have : (0 : Int) < (a0.size : Int) := of_decide_eq_true (by first | (with_reducible assumption) | assumption); omega)
    have hx3 : ∀ h : 0 < a0.size, ((a0[0]'h).toNat : Int) = bt a0 0 := bt_at a0 0
    clear p3
    have qi3 : (0 < (a0.size : Int)) = True := eq_true (of_decide_eq_true (by first | (with_reducible assumption) | assumption))
    replace q3 := eq_true q3
    go_enter Tryd.func36, Tryd.ntmps36
    go_wp2_with (first | ((with_reducible refine gate_callee (f := 47) rfl ?_); refine goesL_ (some 17) rfl rfl Tryd.func47 (by kernel_rfl) rfl #[.int .u8 (bt a0 0)] rfl (by (try simp only [List.map_toArray, List.map_cons, List.map_nil]); first | done | rfl | (simp only [List.length_drop, List.length_take]; rfl)) ?_; (with_reducible refine (lex_letter.calls (bt a0 0) true _ A4.out).mono ?_); rintro e w' ⟨rfl, ⟨nd, rfl⟩⟩; refine ⟨_, rfl, ?_⟩) | ((with_reducible refine gate_callee (f := 48) rfl ?_); refine goesL_ (some 19) rfl rfl Tryd.func48 (by kernel_rfl) rfl #[.string a0, .int .i64 0, .func (.func 49) #[] #[]] rfl (by (try simp only [List.map_toArray, List.map_cons, List.map_nil]); first | done | rfl | (simp only [List.length_drop, List.length_take]; rfl)) ?_; (with_reducible refine (lex_run.calls a0 0 49 t114 _ A6.out).mono ?_); rintro e w' ⟨rfl, ⟨nd, rfl⟩⟩; refine ⟨_, rfl, ?_⟩))
    go_ret3
    exact ⟨by first | rfl | (simp [errW_none, errW_some] <;> rfl) | (simp [*, errW_none, errW_some] <;> rfl), by repeat (first | (with_reducible first | exact HB.out | apply bw1 | apply bw2 | apply bw3) | exact HB.out)⟩
   ·rw [if_neg c7] at H
    have c7b0 : decide (32 < t114) = false := decide_eq_false c7
    clear c7
    by_cases c8 : 0 ≤ t114
    ·rw [if_pos c8] at H
     have c8b0 := eq_true c8
     have c8b1 : decide (0 ≤ t114) = true := decide_eq_true c8
     clear c8
     by_cases c9 : t114 ≤ (a0.size : Int)
     ·rw [if_pos c9] at H
      have c9b0 := eq_true c9
      have c9b1 : decide (t114 ≤ (a0.size : Int)) = true := decide_eq_true c9
      clear c9
      replace H := Option.bind_eq_some_iff.mp H
      obtain ⟨t115, A100, H⟩ := H
      replace H : (if t115 = true then (some (4, t114, 0)) else (some (1, t114, 0))) = some (r1, r2, r3) := H
      have A10 := Aside0.mk A100
      clear A100
      by_cases c11 : t115 = true
      ·subst c11
       have H1 : (some (4, t114, 0)) = some (r1, r2, r3) := by rw [if_pos rfl] at H; exact H
       clear H
       have H := H1
       clear H1
       simp only [Option.some.injEq, Prod.mk.injEq] at H
       obtain ⟨rfl, rfl, rfl⟩ := H
       have p3 : 0 ≤ (0 : Int) := (by omega)
       have q3 : 0 < a0.size := (by have : (0 : Int) < (a0.size : Int) := of_decide_eq_true (by first | (with_reducible assumption) | assumption); omega)
       have hx3 : ∀ h : 0 < a0.size, ((a0[0]'h).toNat : Int) = bt a0 0 := bt_at a0 0
       clear p3
       have qi3 : (0 < (a0.size : Int)) = True := eq_true (of_decide_eq_true (by first | (with_reducible assumption) | assumption))
       replace q3 := eq_true q3
       go_enter Tryd.func36, Tryd.ntmps36
       go_wp2_with (first | ((with_reducible refine gate_callee (f := 47) rfl ?_); refine goesL_ (some 17) rfl rfl Tryd.func47 (by kernel_rfl) rfl #[.int .u8 (bt a0 0)] rfl (by (try simp only [List.map_toArray, List.map_cons, List.map_nil]); first | done | rfl | (simp only [List.length_drop, List.length_take]; rfl)) ?_; (with_reducible refine (lex_letter.calls (bt a0 0) true _ A4.out).mono ?_); rintro e w' ⟨rfl, ⟨nd, rfl⟩⟩; refine ⟨_, rfl, ?_⟩) | ((with_reducible refine gate_callee (f := 48) rfl ?_); refine goesL_ (some 19) rfl rfl Tryd.func48 (by kernel_rfl) rfl #[.string a0, .int .i64 0, .func (.func 49) #[] #[]] rfl (by (try simp only [List.map_toArray, List.map_cons, List.map_nil]); first | done | rfl | (simp only [List.length_drop, List.length_take]; rfl)) ?_; (with_reducible refine (lex_run.calls a0 0 49 t114 _ A6.out).mono ?_); rintro e w' ⟨rfl, ⟨nd, rfl⟩⟩; refine ⟨_, rfl, ?_⟩) | ((with_reducible refine gate_callee (f := 51) rfl ?_); refine goesL_ (some 25) rfl rfl Tryd.func51 (by kernel_rfl) rfl #[.string (a0.extract 0 (t114 : Int).toNat)] rfl (by (try simp only [List.map_toArray, List.map_cons, List.map_nil]); first | done | rfl | (simp only [List.length_drop, List.length_take]; rfl)) ?_; (with_reducible refine (lex_Key.calls (a0.extract 0 (t114 : Int).toNat) true _ A10.out).mono ?_); rintro e w12 ⟨rfl, hb⟩; refine ⟨_, rfl, ?_⟩; have n0_ := Aside0.mk (below_step (by repeat (first | (with_reducible first | exact HB.out | apply bw1 | apply bw2 | apply bw3) | exact HB.out)) hb); clear HB; have HB := n0_; clear n0_; (try clear hb); (try clear hb2); (try clear hk); (try clear hi)))
       go_ret3
       exact ⟨by first | rfl | (simp [errW_none, errW_some] <;> rfl) | (simp [*, errW_none, errW_some] <;> rfl), by repeat (first | (with_reducible first | exact HB.out | apply bw1 | apply bw2 | apply bw3) | exact HB.out)⟩
      ·replace c11 := Bool.eq_false_iff.mpr c11
       subst c11
       have H1 : (some (1, t114, 0)) = some (r1, r2, r3) := by rw [if_neg (show ¬ (false = true) by decide)] at H; exact H
       clear H
       have H := H1
       clear H1
       simp only [Option.some.injEq, Prod.mk.injEq] at H
       obtain ⟨rfl, rfl, rfl⟩ := H
       have p3 : 0 ≤ (0 : Int) := (by omega)
       have q3 : 0 < a0.size := (by have : (0 : Int) < (a0.size : Int) := of_decide_eq_true (by first | (with_reducible assumption) | assumption); omega)
       have hx3 : ∀ h : 0 < a0.size, ((a0[0]'h).toNat : Int) = bt a0 0 := bt_at a0 0
       clear p3
       have qi3 : (0 < (a0.size : Int)) = True := eq_true (of_decide_eq_true (by first | (with_reducible assumption) | assumption))
       replace q3 := eq_true q3
       go_enter Tryd.func36, Tryd.ntmps36
       go_wp2_with (first | ((with_reducible refine gate_callee (f := 47) rfl ?_); refine goesL_ (some 17) rfl rfl Tryd.func47 (by kernel_rfl) rfl #[.int .u8 (bt a0 0)] rfl (by (try simp only [List.map_toArray, List.map_cons, List.map_nil]); first | done | rfl | (simp only [List.length_drop, List.length_take]; rfl)) ?_; (with_reducible refine (lex_letter.calls (bt a0 0) true _ A4.out).mono ?_); rintro e w' ⟨rfl, ⟨nd, rfl⟩⟩; refine ⟨_, rfl, ?_⟩) | ((with_reducible refine gate_callee (f := 48) rfl ?_); refine goesL_ (some 19) rfl rfl Tryd.func48 (by kernel_rfl) rfl #[.string a0, .int .i64 0, .func (.func 49) #[] #[]] rfl (by (try simp only [List.map_toArray, List.map_cons, List.map_nil]); first | done | rfl | (simp only [List.length_drop, List.length_take]; rfl)) ?_; (with_reducible refine (lex_run.calls a0 0 49 t114 _ A6.out).mono ?_); rintro e w' ⟨rfl, ⟨nd, rfl⟩⟩; refine ⟨_, rfl, ?_⟩) | ((with_reducible refine gate_callee (f := 51) rfl ?_); refine goesL_ (some 25) rfl rfl Tryd.func51 (by kernel_rfl) rfl #[.string (a0.extract 0 (t114 : Int).toNat)] rfl (by (try simp only [List.map_toArray, List.map_cons, List.map_nil]); first | done | rfl | (simp only [List.length_drop, List.length_take]; rfl)) ?_; (with_reducible refine (lex_Key.calls (a0.extract 0 (t114 : Int).toNat) false _ A10.out).mono ?_); rintro e w13 ⟨rfl, hb⟩; refine ⟨_, rfl, ?_⟩; have n0_ := Aside0.mk (below_step (by repeat (first | (with_reducible first | exact HB.out | apply bw1 | apply bw2 | apply bw3) | exact HB.out)) hb); clear HB; have HB := n0_; clear n0_; (try clear hb); (try clear hb2); (try clear hk); (try clear hi)))
       go_ret3
       exact ⟨by first | rfl | (simp [errW_none, errW_some] <;> rfl) | (simp [*, errW_none, errW_some] <;> rfl), by repeat (first | (with_reducible first | exact HB.out | apply bw1 | apply bw2 | apply bw3) | exact HB.out)⟩
     ·rw [if_neg c9] at H
      exact absurd H (by simp)
    ·rw [if_neg c8] at H
     exact absurd H (by simp)
  ·replace c5 := Bool.eq_false_iff.mpr c5
   subst c5
   have H1 : ((lex_digit.f (bt a0 0)).bind fun t116 => (if t116 = true then ((lex_run.f a0 0 50).bind fun t117 => (if 0 ≤ t117 then (if t117 ≤ (a0.size : Int) then ((lex_whole.f (a0.extract 0 (t117 : Int).toNat)).bind fun bt118 => (if bt118.2 = true then (if t117 < (a0.size : Int) then ((lex_letter.f (bt a0 t117)).bind fun t120 => (lex_token.j0 k t117 t120)) else (lex_token.j0 k t117 false)) else (lex_token.j0 k t117 true))) else (none)) else (none))) else (if (bt a0 0) = 34 then ((lex_quoted.f k a0).bind fun bt121 => (if bt121.2 = 0 then (some (0, 0, 122)) else (some (3, bt121.2, 0)))) else ((lex_sign.f a0).bind fun t123 => (if t123 = 0 then (some (0, 0, 120)) else (some (5, t123, 0))))))) = some (r1, r2, r3) := by rw [if_neg (show ¬ (false = true) by decide)] at H; exact H
   clear H
   have H := H1
   clear H1
   replace H := Option.bind_eq_some_iff.mp H
   obtain ⟨t116, A140, H⟩ := H
   replace H : (if t116 = true then ((lex_run.f a0 0 50).bind fun t117 => (if 0 ≤ t117 then (if t117 ≤ (a0.size : Int) then ((lex_whole.f (a0.extract 0 (t117 : Int).toNat)).bind fun bt118 => (if bt118.2 = true then (if t117 < (a0.size : Int) then ((lex_letter.f (bt a0 t117)).bind fun t120 => (lex_token.j0 k t117 t120)) else (lex_token.j0 k t117 false)) else (lex_token.j0 k t117 true))) else (none)) else (none))) else (if (bt a0 0) = 34 then ((lex_quoted.f k a0).bind fun bt121 => (if bt121.2 = 0 then (some (0, 0, 122)) else (some (3, bt121.2, 0)))) else ((lex_sign.f a0).bind fun t123 => (if t123 = 0 then (some (0, 0, 120)) else (some (5, t123, 0)))))) = some (r1, r2, r3) := H
   have A14 := Aside0.mk A140
   clear A140
   by_cases c15 : t116 = true
   ·subst c15
    have H1 : ((lex_run.f a0 0 50).bind fun t117 => (if 0 ≤ t117 then (if t117 ≤ (a0.size : Int) then ((lex_whole.f (a0.extract 0 (t117 : Int).toNat)).bind fun bt118 => (if bt118.2 = true then (if t117 < (a0.size : Int) then ((lex_letter.f (bt a0 t117)).bind fun t120 => (lex_token.j0 k t117 t120)) else (lex_token.j0 k t117 false)) else (lex_token.j0 k t117 true))) else (none)) else (none))) = some (r1, r2, r3) := by rw [if_pos rfl] at H; exact H
    clear H
    have H := H1
    clear H1
    replace H := Option.bind_eq_some_iff.mp H
    obtain ⟨t117, A160, H⟩ := H
    replace H : (if 0 ≤ t117 then (if t117 ≤ (a0.size : Int) then ((lex_whole.f (a0.extract 0 (t117 : Int).toNat)).bind fun bt118 => (if bt118.2 = true then (if t117 < (a0.size : Int) then ((lex_letter.f (bt a0 t117)).bind fun t120 => (lex_token.j0 k t117 t120)) else (lex_token.j0 k t117 false)) else (lex_token.j0 k t117 true))) else (none)) else (none)) = some (r1, r2, r3) := H
    have A16 := Aside0.mk A160
    clear A160
    by_cases c17 : 0 ≤ t117
    ·rw [if_pos c17] at H
     have c17b0 := eq_true c17
     have c17b1 : decide (0 ≤ t117) = true := decide_eq_true c17
     clear c17
     by_cases c18 : t117 ≤ (a0.size : Int)
     ·rw [if_pos c18] at H
      have c18b0 := eq_true c18
      have c18b1 : decide (t117 ≤ (a0.size : Int)) = true := decide_eq_true c18
      clear c18
      replace H := Option.bind_eq_some_iff.mp H
      obtain ⟨⟨t118, t119⟩, A190, H⟩ := H
      replace H : (if t119 = true then (if t117 < (a0.size : Int) then ((lex_letter.f (bt a0 t117)).bind fun t120 => (lex_token.j0 k t117 t120)) else (lex_token.j0 k t117 false)) else (lex_token.j0 k t117 true)) = some (r1, r2, r3) := H
      have A19 := Aside0.mk A190
      clear A190
      have HC20 := Aside0.mk H
      clear H
      have p3 : 0 ≤ (0 : Int) := (by omega)
      have q3 : 0 < a0.size := (by have : (0 : Int) < (a0.size : Int) := of_decide_eq_true (by first | (with_reducible assumption) | assumption); omega)
      have hx3 : ∀ h : 0 < a0.size, ((a0[0]'h).toNat : Int) = bt a0 0 := bt_at a0 0
      clear p3
      have qi3 : (0 < (a0.size : Int)) = True := eq_true (of_decide_eq_true (by first | (with_reducible assumption) | assumption))
      replace q3 := eq_true q3
      go_enter Tryd.func36, Tryd.ntmps36
      go_upto_region 12 with (first | ((with_reducible refine gate_callee (f := 47) rfl ?_); refine goesL_ (some 17) rfl rfl Tryd.func47 (by kernel_rfl) rfl #[.int .u8 (bt a0 0)] rfl (by (try simp only [List.map_toArray, List.map_cons, List.map_nil]); first | done | rfl | (simp only [List.length_drop, List.length_take]; rfl)) ?_; (with_reducible refine (lex_letter.calls (bt a0 0) false _ A4.out).mono ?_); rintro e w' ⟨rfl, ⟨nd, rfl⟩⟩; refine ⟨_, rfl, ?_⟩) | ((with_reducible refine gate_callee (f := 50) rfl ?_); refine goesL_ (some 30) rfl rfl Tryd.func50 (by kernel_rfl) rfl #[.int .u8 (bt a0 0)] rfl (by (try simp only [List.map_toArray, List.map_cons, List.map_nil]); first | done | rfl | (simp only [List.length_drop, List.length_take]; rfl)) ?_; (with_reducible refine (lex_digit.calls (bt a0 0) true _ A14.out).mono ?_); rintro e w' ⟨rfl, ⟨nd, rfl⟩⟩; refine ⟨_, rfl, ?_⟩) | ((with_reducible refine gate_callee (f := 48) rfl ?_); refine goesL_ (some 32) rfl rfl Tryd.func48 (by kernel_rfl) rfl #[.string a0, .int .i64 0, .func (.func 50) #[] #[]] rfl (by (try simp only [List.map_toArray, List.map_cons, List.map_nil]); first | done | rfl | (simp only [List.length_drop, List.length_take]; rfl)) ?_; (with_reducible refine (lex_run.calls a0 0 50 t117 _ A16.out).mono ?_); rintro e w' ⟨rfl, ⟨nd, rfl⟩⟩; refine ⟨_, rfl, ?_⟩) | ((with_reducible refine gate_callee (f := 52) rfl ?_); refine goesL_ (some 37) rfl rfl Tryd.func52 (by kernel_rfl) rfl #[.string (a0.extract 0 (t117 : Int).toNat)] rfl (by (try simp only [List.map_toArray, List.map_cons, List.map_nil]); first | done | rfl | (simp only [List.length_drop, List.length_take]; rfl)) ?_; (with_reducible refine (lex_whole.calls (a0.extract 0 (t117 : Int).toNat) t118 t119 _ A19.out (by first | exact HI.out | exact Inv.below HI.out (by repeat (first | (with_reducible first | exact HB.out | apply bw1 | apply bw2 | apply bw3) | exact HB.out)) | exact Inv.drawn HI.out (by repeat (first | exact Drawn0.refl _ | apply Drawn0.step)))).mono ?_); rintro e w21 ⟨rfl, hb⟩; refine ⟨_, rfl, ?_⟩; have n0_ := Aside0.mk (below_step (by repeat (first | (with_reducible first | exact HB.out | apply bw1 | apply bw2 | apply bw3) | exact HB.out)) hb); clear HB; have HB := n0_; clear n0_; (try clear hb); (try clear hb2); (try clear hk); (try clear hi)))
      (try simp only [Act.put, List.setIfInBounds_toArray, List.set_cons_zero, List.set_cons_succ])
      go_cut [53] (fun v53 wc => ∃ (kq : Nat) (x53_19 : Bool), v53 = .bool x53_19 ∧ Aside0 (lex_token.j0 kq t117 x53_19 = some (r1, r2, r3)) ∧ Aside0 (kq ≤ k) ∧ Aside0 (Below w.heap.size w wc))
      case first =>
       have H := HC20.out
       clear HC20
       by_cases c22 : t119 = true
       ·subst c22
        have H1 : (if t117 < (a0.size : Int) then ((lex_letter.f (bt a0 t117)).bind fun t120 => (lex_token.j0 k t117 t120)) else (lex_token.j0 k t117 false)) = some (r1, r2, r3) := by rw [if_pos rfl] at H; exact H
        clear H
        have H := H1
        clear H1
        by_cases c23 : t117 < (a0.size : Int)
        ·rw [if_pos c23] at H
         have c23b0 : decide (t117 < (a0.size : Int)) = true := decide_eq_true c23
         clear c23
         (first | rw [c23b0] | (simp only [i64_w, i32_w]; rw [c23b0]) | skip)
         replace H := Option.bind_eq_some_iff.mp H
         obtain ⟨t120, A250, H⟩ := H
         replace H : (lex_token.j0 k t117 t120) = some (r1, r2, r3) := H
         have A25 := Aside0.mk A250
         clear A250
         have H' := Aside0.mk H
         clear H
         have p24 : 0 ≤ (t117 : Int) := of_decide_eq_true (by first | (with_reducible assumption) | assumption)
         have q24 : t117 < (a0.size : Int) := of_decide_eq_true (by first | (with_reducible assumption) | assumption)
         have hx24 := bt_at a0 t117
         replace p24 := eq_true p24
         replace q24 := eq_true q24
         go_wp2_with (first | (go_at_call 47; (with_reducible refine (lex_letter.calls (bt a0 t117) t120 _ A25.out).mono ?_); rintro e w' ⟨rfl, ⟨nd, rfl⟩⟩))
         go_meet
         case rel => exact ⟨_, (t120), (by first | rfl | (simp; done) | (simp [*]; done)), H', ⟨by first | omega | exact Nat.le_refl _⟩, ⟨by repeat (first | (with_reducible first | exact HB.out | apply bw1 | apply bw2 | apply bw3) | exact HB.out)⟩⟩
        ·rw [if_neg c23] at H
         have c23b0 : decide (t117 < (a0.size : Int)) = false := decide_eq_false c23
         clear c23
         (first | rw [c23b0] | (simp only [i64_w, i32_w]; rw [c23b0]) | skip)
         have H' := Aside0.mk H
         clear H
         go_wp2
         go_meet
         case rel => exact ⟨_, (false), (by first | rfl | (simp; done) | (simp [*]; done)), H', ⟨by first | omega | exact Nat.le_refl _⟩, ⟨by repeat (first | (with_reducible first | exact HB.out | apply bw1 | apply bw2 | apply bw3) | exact HB.out)⟩⟩
       ·replace c22 := Bool.eq_false_iff.mpr c22
        subst c22
        have H1 : (lex_token.j0 k t117 true) = some (r1, r2, r3) := by rw [if_neg (show ¬ (false = true) by decide)] at H; exact H
        clear H
        have H := H1
        clear H1
        have H' := Aside0.mk H
        clear H
        go_wp2
        go_meet
        case rel => exact ⟨_, (true), (by first | rfl | (simp; done) | (simp [*]; done)), H', ⟨by first | omega | exact Nat.le_refl _⟩, ⟨by repeat (first | (with_reducible first | exact HB.out | apply bw1 | apply bw2 | apply bw3) | exact HB.out)⟩⟩
      case rest =>
       clear HC20
       try clear c1
       try clear c2
       try clear c2b0
       try clear c2b1
       try clear p2
       try clear q2
       try clear hx2
       try clear c3
       try clear p3
       try clear q3
       try clear hx3
       try clear qi3
       try clear c4
       try clear c5
       try clear c7
       try clear c7b0
       try clear c8
       try clear c8b0
       try clear c8b1
       try clear c9
       try clear c9b0
       try clear c9b1
       try clear c11
       try clear c15
       try clear c17
       try clear c17b0
       try clear c17b1
       try clear c18
       try clear c18b0
       try clear c18b1
       try clear c22
       try clear c23
       try clear c23b0
       try clear p24
       try clear q24
       try clear hx24
       try clear p24
       try clear p3
       try clear q24
       try clear q3
       obtain ⟨kq, x53_19, rfl, HA, HJ19, HB⟩ := hcut
       cases kq with
       | zero => exact absurd HA.out (by simp [lex_token.j0])
       | succ kj19 =>
        have H := HA.out
        clear HA
        simp only [lex_token.j0] at H
        by_cases c26 : x53_19 = true
        ·subst c26
         have H1 : (some (0, 0, 121)) = some (r1, r2, r3) := by rw [if_pos rfl] at H; exact H
         clear H
         have H := H1
         clear H1
         simp only [Option.some.injEq, Prod.mk.injEq] at H
         obtain ⟨rfl, rfl, rfl⟩ := H
         go_wp2
         go_ret3
         exact ⟨by first | rfl | (simp [errW_none, errW_some] <;> rfl) | (simp [*, errW_none, errW_some] <;> rfl), by repeat (first | (with_reducible first | exact HB.out | apply bw1 | apply bw2 | apply bw3) | exact HB.out)⟩
        ·replace c26 := Bool.eq_false_iff.mpr c26
         subst c26
         have H1 : (some (2, t117, 0)) = some (r1, r2, r3) := by rw [if_neg (show ¬ (false = true) by decide)] at H; exact H
         clear H
         have H := H1
         clear H1
         simp only [Option.some.injEq, Prod.mk.injEq] at H
         obtain ⟨rfl, rfl, rfl⟩ := H
         go_wp2
         go_ret3
         exact ⟨by first | rfl | (simp [errW_none, errW_some] <;> rfl) | (simp [*, errW_none, errW_some] <;> rfl), by repeat (first | (with_reducible first | exact HB.out | apply bw1 | apply bw2 | apply bw3) | exact HB.out)⟩
     ·rw [if_neg c18] at H
      exact absurd H (by simp)
    ·rw [if_neg c17] at H
     exact absurd H (by simp)
   ·replace c15 := Bool.eq_false_iff.mpr c15
    subst c15
    have H1 : (if (bt a0 0) = 34 then ((lex_quoted.f k a0).bind fun bt121 => (if bt121.2 = 0 then (some (0, 0, 122)) else (some (3, bt121.2, 0)))) else ((lex_sign.f a0).bind fun t123 => (if t123 = 0 then (some (0, 0, 120)) else (some (5, t123, 0))))) = some (r1, r2, r3) := by rw [if_neg (show ¬ (false = true) by decide)] at H; exact H
    clear H
    have H := H1
    clear H1
    by_cases c27 : (bt a0 0) = 34
    ·rw [if_pos c27] at H
     have c27b0 : ((bt a0 0) == 34) = true := beq_iff_eq.mpr c27
     have c27b1 : ((bt a0 0) != 34) = false := bne_eq_false_iff_eq.mpr c27
     clear c27
     replace H := Option.bind_eq_some_iff.mp H
     obtain ⟨⟨t121, t122⟩, A280, H⟩ := H
     replace H : (if t122 = 0 then (some (0, 0, 122)) else (some (3, t122, 0))) = some (r1, r2, r3) := H
     have A28 := Aside0.mk A280
     clear A280
     by_cases c29 : t122 = 0
     ·rw [if_pos c29] at H
      have c29b0 : (t122 == 0) = true := beq_iff_eq.mpr c29
      have c29b1 : (t122 != 0) = false := bne_eq_false_iff_eq.mpr c29
      clear c29
      simp only [Option.some.injEq, Prod.mk.injEq] at H
      obtain ⟨rfl, rfl, rfl⟩ := H
      have p3 : 0 ≤ (0 : Int) := (by omega)
      have q3 : 0 < a0.size := (by have : (0 : Int) < (a0.size : Int) := of_decide_eq_true (by first | (with_reducible assumption) | assumption); omega)
      have hx3 : ∀ h : 0 < a0.size, ((a0[0]'h).toNat : Int) = bt a0 0 := bt_at a0 0
      clear p3
      have qi3 : (0 < (a0.size : Int)) = True := eq_true (of_decide_eq_true (by first | (with_reducible assumption) | assumption))
      replace q3 := eq_true q3
      go_enter Tryd.func36, Tryd.ntmps36
      go_wp2_with (first | ((with_reducible refine gate_callee (f := 47) rfl ?_); refine goesL_ (some 17) rfl rfl Tryd.func47 (by kernel_rfl) rfl #[.int .u8 (bt a0 0)] rfl (by (try simp only [List.map_toArray, List.map_cons, List.map_nil]); first | done | rfl | (simp only [List.length_drop, List.length_take]; rfl)) ?_; (with_reducible refine (lex_letter.calls (bt a0 0) false _ A4.out).mono ?_); rintro e w' ⟨rfl, ⟨nd, rfl⟩⟩; refine ⟨_, rfl, ?_⟩) | ((with_reducible refine gate_callee (f := 50) rfl ?_); refine goesL_ (some 30) rfl rfl Tryd.func50 (by kernel_rfl) rfl #[.int .u8 (bt a0 0)] rfl (by (try simp only [List.map_toArray, List.map_cons, List.map_nil]); first | done | rfl | (simp only [List.length_drop, List.length_take]; rfl)) ?_; (with_reducible refine (lex_digit.calls (bt a0 0) false _ A14.out).mono ?_); rintro e w' ⟨rfl, ⟨nd, rfl⟩⟩; refine ⟨_, rfl, ?_⟩) | ((with_reducible refine gate_callee (f := 42) rfl ?_); refine goesL_ (some 60) rfl rfl Tryd.func42 (by kernel_rfl) rfl #[.string a0] rfl (by (try simp only [List.map_toArray, List.map_cons, List.map_nil]); first | done | rfl | (simp only [List.length_drop, List.length_take]; rfl)) ?_; (with_reducible refine (lex_quoted.calls k a0 t121 t122 _ A28.out).mono ?_); rintro e w30 ⟨rfl, hb⟩; refine ⟨_, rfl, ?_⟩; have n0_ := Aside0.mk (below_step (by repeat (first | (with_reducible first | exact HB.out | apply bw1 | apply bw2 | apply bw3) | exact HB.out)) hb); clear HB; have HB := n0_; clear n0_; (try clear hb); (try clear hb2); (try clear hk); (try clear hi)))
      go_ret3
      exact ⟨by first | rfl | (simp [errW_none, errW_some] <;> rfl) | (simp [*, errW_none, errW_some] <;> rfl), by repeat (first | (with_reducible first | exact HB.out | apply bw1 | apply bw2 | apply bw3) | exact HB.out)⟩
     ·rw [if_neg c29] at H
      have c29b0 : (t122 == 0) = false := beq_eq_false_iff_ne.mpr c29
      have c29b1 : (t122 != 0) = true := bne_iff_ne.mpr c29
      simp only [Option.some.injEq, Prod.mk.injEq] at H
      obtain ⟨rfl, rfl, rfl⟩ := H
      have p3 : 0 ≤ (0 : Int) := (by omega)
      have q3 : 0 < a0.size := (by have : (0 : Int) < (a0.size : Int) := of_decide_eq_true (by first | (with_reducible assumption) | assumption); omega)
      have hx3 : ∀ h : 0 < a0.size, ((a0[0]'h).toNat : Int) = bt a0 0 := bt_at a0 0
      clear p3
      have qi3 : (0 < (a0.size : Int)) = True := eq_true (of_decide_eq_true (by first | (with_reducible assumption) | assumption))
      replace q3 := eq_true q3
      go_enter Tryd.func36, Tryd.ntmps36
      go_wp2_with (first | ((with_reducible refine gate_callee (f := 47) rfl ?_); refine goesL_ (some 17) rfl rfl Tryd.func47 (by kernel_rfl) rfl #[.int .u8 (bt a0 0)] rfl (by (try simp only [List.map_toArray, List.map_cons, List.map_nil]); first | done | rfl | (simp only [List.length_drop, List.length_take]; rfl)) ?_; (with_reducible refine (lex_letter.calls (bt a0 0) false _ A4.out).mono ?_); rintro e w' ⟨rfl, ⟨nd, rfl⟩⟩; refine ⟨_, rfl, ?_⟩) | ((with_reducible refine gate_callee (f := 50) rfl ?_); refine goesL_ (some 30) rfl rfl Tryd.func50 (by kernel_rfl) rfl #[.int .u8 (bt a0 0)] rfl (by (try simp only [List.map_toArray, List.map_cons, List.map_nil]); first | done | rfl | (simp only [List.length_drop, List.length_take]; rfl)) ?_; (with_reducible refine (lex_digit.calls (bt a0 0) false _ A14.out).mono ?_); rintro e w' ⟨rfl, ⟨nd, rfl⟩⟩; refine ⟨_, rfl, ?_⟩) | ((with_reducible refine gate_callee (f := 42) rfl ?_); refine goesL_ (some 60) rfl rfl Tryd.func42 (by kernel_rfl) rfl #[.string a0] rfl (by (try simp only [List.map_toArray, List.map_cons, List.map_nil]); first | done | rfl | (simp only [List.length_drop, List.length_take]; rfl)) ?_; (with_reducible refine (lex_quoted.calls k a0 t121 t122 _ A28.out).mono ?_); rintro e w31 ⟨rfl, hb⟩; refine ⟨_, rfl, ?_⟩; have n0_ := Aside0.mk (below_step (by repeat (first | (with_reducible first | exact HB.out | apply bw1 | apply bw2 | apply bw3) | exact HB.out)) hb); clear HB; have HB := n0_; clear n0_; (try clear hb); (try clear hb2); (try clear hk); (try clear hi)))
      go_ret3
      exact ⟨by first | rfl | (simp [errW_none, errW_some] <;> rfl) | (simp [*, errW_none, errW_some] <;> rfl), by repeat (first | (with_reducible first | exact HB.out | apply bw1 | apply bw2 | apply bw3) | exact HB.out)⟩
    ·rw [if_neg c27] at H
     have c27b0 : ((bt a0 0) == 34) = false := beq_eq_false_iff_ne.mpr c27
     have c27b1 : ((bt a0 0) != 34) = true := bne_iff_ne.mpr c27
     replace H := Option.bind_eq_some_iff.mp H
     obtain ⟨t123, A320, H⟩ := H
     replace H : (if t123 = 0 then (some (0, 0, 120)) else (some (5, t123, 0))) = some (r1, r2, r3) := H
     have A32 := Aside0.mk A320
     clear A320
     by_cases c33 : t123 = 0
     ·rw [if_pos c33] at H
      have c33b0 : (t123 == 0) = true := beq_iff_eq.mpr c33
      have c33b1 : (t123 != 0) = false := bne_eq_false_iff_eq.mpr c33
      clear c33
      simp only [Option.some.injEq, Prod.mk.injEq] at H
      obtain ⟨rfl, rfl, rfl⟩ := H
      have p3 : 0 ≤ (0 : Int) := (by omega)
      have q3 : 0 < a0.size := (by have : (0 : Int) < (a0.size : Int) := of_decide_eq_true (by first | (with_reducible assumption) | assumption); omega)
      have hx3 : ∀ h : 0 < a0.size, ((a0[0]'h).toNat : Int) = bt a0 0 := bt_at a0 0
      clear p3
      have qi3 : (0 < (a0.size : Int)) = True := eq_true (of_decide_eq_true (by first | (with_reducible assumption) | assumption))
      replace q3 := eq_true q3
      go_enter Tryd.func36, Tryd.ntmps36
      go_wp2_with (first | ((with_reducible refine gate_callee (f := 47) rfl ?_); refine goesL_ (some 17) rfl rfl Tryd.func47 (by kernel_rfl) rfl #[.int .u8 (bt a0 0)] rfl (by (try simp only [List.map_toArray, List.map_cons, List.map_nil]); first | done | rfl | (simp only [List.length_drop, List.length_take]; rfl)) ?_; (with_reducible refine (lex_letter.calls (bt a0 0) false _ A4.out).mono ?_); rintro e w' ⟨rfl, ⟨nd, rfl⟩⟩; refine ⟨_, rfl, ?_⟩) | ((with_reducible refine gate_callee (f := 50) rfl ?_); refine goesL_ (some 30) rfl rfl Tryd.func50 (by kernel_rfl) rfl #[.int .u8 (bt a0 0)] rfl (by (try simp only [List.map_toArray, List.map_cons, List.map_nil]); first | done | rfl | (simp only [List.length_drop, List.length_take]; rfl)) ?_; (with_reducible refine (lex_digit.calls (bt a0 0) false _ A14.out).mono ?_); rintro e w' ⟨rfl, ⟨nd, rfl⟩⟩; refine ⟨_, rfl, ?_⟩) | ((with_reducible refine gate_callee (f := 53) rfl ?_); refine goesL_ (some 67) rfl rfl Tryd.func53 (by kernel_rfl) rfl #[.string a0] rfl (by (try simp only [List.map_toArray, List.map_cons, List.map_nil]); first | done | rfl | (simp only [List.length_drop, List.length_take]; rfl)) ?_; (with_reducible refine (lex_sign.calls a0 t123 _ A32.out).mono ?_); rintro e w34 ⟨rfl, hb⟩; refine ⟨_, rfl, ?_⟩; have n0_ := Aside0.mk (below_step (by repeat (first | (with_reducible first | exact HB.out | apply bw1 | apply bw2 | apply bw3) | exact HB.out)) hb); clear HB; have HB := n0_; clear n0_; (try clear hb); (try clear hb2); (try clear hk); (try clear hi)))
      go_ret3
      exact ⟨by first | rfl | (simp [errW_none, errW_some] <;> rfl) | (simp [*, errW_none, errW_some] <;> rfl), by repeat (first | (with_reducible first | exact HB.out | apply bw1 | apply bw2 | apply bw3) | exact HB.out)⟩
     ·rw [if_neg c33] at H
      have c33b0 : (t123 == 0) = false := beq_eq_false_iff_ne.mpr c33
      have c33b1 : (t123 != 0) = true := bne_iff_ne.mpr c33
      simp only [Option.some.injEq, Prod.mk.injEq] at H
      obtain ⟨rfl, rfl, rfl⟩ := H
      have p3 : 0 ≤ (0 : Int) := (by omega)
      have q3 : 0 < a0.size := (by have : (0 : Int) < (a0.size : Int) := of_decide_eq_true (by first | (with_reducible assumption) | assumption); omega)
      have hx3 : ∀ h : 0 < a0.size, ((a0[0]'h).toNat : Int) = bt a0 0 := bt_at a0 0
      clear p3
      have qi3 : (0 < (a0.size : Int)) = True := eq_true (of_decide_eq_true (by first | (with_reducible assumption) | assumption))
      replace q3 := eq_true q3
      go_enter Tryd.func36, Tryd.ntmps36
      go_wp2_with (first | ((with_reducible refine gate_callee (f := 47) rfl ?_); refine goesL_ (some 17) rfl rfl Tryd.func47 (by kernel_rfl) rfl #[.int .u8 (bt a0 0)] rfl (by (try simp only [List.map_toArray, List.map_cons, List.map_nil]); first | done | rfl | (simp only [List.length_drop, List.length_take]; rfl)) ?_; (with_reducible refine (lex_letter.calls (bt a0 0) false _ A4.out).mono ?_); rintro e w' ⟨rfl, ⟨nd, rfl⟩⟩; refine ⟨_, rfl, ?_⟩) | ((with_reducible refine gate_callee (f := 50) rfl ?_); refine goesL_ (some 30) rfl rfl Tryd.func50 (by kernel_rfl) rfl #[.int .u8 (bt a0 0)] rfl (by (try simp only [List.map_toArray, List.map_cons, List.map_nil]); first | done | rfl | (simp only [List.length_drop, List.length_take]; rfl)) ?_; (with_reducible refine (lex_digit.calls (bt a0 0) false _ A14.out).mono ?_); rintro e w' ⟨rfl, ⟨nd, rfl⟩⟩; refine ⟨_, rfl, ?_⟩) | ((with_reducible refine gate_callee (f := 53) rfl ?_); refine goesL_ (some 67) rfl rfl Tryd.func53 (by kernel_rfl) rfl #[.string a0] rfl (by (try simp only [List.map_toArray, List.map_cons, List.map_nil]); first | done | rfl | (simp only [List.length_drop, List.length_take]; rfl)) ?_; (with_reducible refine (lex_sign.calls a0 t123 _ A32.out).mono ?_); rintro e w35 ⟨rfl, hb⟩; refine ⟨_, rfl, ?_⟩; have n0_ := Aside0.mk (below_step (by repeat (first | (with_reducible first | exact HB.out | apply bw1 | apply bw2 | apply bw3) | exact HB.out)) hb); clear HB; have HB := n0_; clear n0_; (try clear hb); (try clear hb2); (try clear hk); (try clear hi)))
      go_ret3
      exact ⟨by first | rfl | (simp [errW_none, errW_some] <;> rfl) | (simp [*, errW_none, errW_some] <;> rfl), by repeat (first | (with_reducible first | exact HB.out | apply bw1 | apply bw2 | apply bw3) | exact HB.out)⟩
 ·rw [if_neg c2] at H
  exact absurd H (by simp)
end Go.Proofs.YtifachjefpcgcaaDoor.P
