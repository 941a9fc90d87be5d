import Derived.Test.YtifachjefpcgcaaGreatDoorGPD
import Derived.Test.YtifachjefpcgcaaGreatDoorGP5
import Derived.Test.YtifachjefpcgcaaGreatDoorGP13
namespace Go.Proofs.YtifachjefpcgcaaGreatDoor.P
open Go.RowKit Go.Proofs.YtifachjefpcgcaaGreatDoorW.PrintWords Go.Proofs.YtifachjefpcgcaaGreatDoorW.PrintLast Go.Proofs.YtifachjefpcgcaaGreatDoorW.PrintMore
attribute [local go_sem] max2_int min2_int max_two min_two max_three min_three max_four min_four
set_option linter.unusedVariables false
set_option linter.unusedSimpArgs false
theorem key_at (a0 : ByteArray) (k : Nat) (h : ∀ x ∈ keyTexts.take k, a0.toList ≠ x) (hk : 16 ≤ k) : (decide (a0.data.toList ∈ keyTexts)) = false := by
 rw [List.take_of_length_le (by show 16 ≤ k; exact hk)] at h
 rw [decide_eq_false_iff_not, ← ByteArray.toList_eq]
 exact fun hm => h _ hm rfl
theorem key_in (a0 : ByteArray) (x : List UInt8) (h : a0.toList = x) (hx : x ∈ keyTexts) : (decide (a0.data.toList ∈ keyTexts)) = true := by
 rw [decide_eq_true_eq, ← ByteArray.toList_eq, h]; exact hx
theorem key_next (a0 : ByteArray) (k : Nat) (x : List UInt8) (hx : keyTexts[k]? = some x) (h : ∀ x ∈ keyTexts.take k, a0.toList ≠ x) (hn : a0.toList ≠ x) : ∀ x ∈ keyTexts.take (k + 1), a0.toList ≠ x := by
 intro y hy
 rw [List.take_add_one, hx] at hy
 simp only [Option.toList_some, List.mem_append, List.mem_singleton] at hy
 rcases hy with hy | rfl
 ·exact h y hy
 ·exact hn
set_option maxHeartbeats 8000000 in
set_option maxRecDepth 100000 in
theorem lex_Key.calls (a0 : ByteArray) (r : Bool) (w : World) (h : lex_Key.f a0 = some r) :
  Calls Tryz.prog 81 #[.string a0] w fun e w' => e = .returned (.bool r) ∧ Below w.heap.size w w' := by
 obtain rfl := Option.some.inj h
 go_enter Tryz.func81, Tryz.ntmps81
 go_wp2
 go_loop [8] (fun i => ∃ k : Int, 0 ≤ k ∧ k ≤ 16 ∧ i = .int .i64 k ∧ Hid (∀ x ∈ keyTexts.take k.toNat, a0.toList ≠ x)) (fun i => 16 - (intOf i).toNat)
 case atStart => exact ⟨0, by omega, by omega, rfl, Lib.hid (by simp)⟩
 case round =>
  obtain ⟨k, hk0, hk, rfl, HN⟩ := hrel
  by_cases hlt : k < 16
  ·have hc : k = 0 ∨ k = 1 ∨ k = 2 ∨ k = 3 ∨ k = 4 ∨ k = 5 ∨ k = 6 ∨ k = 7 ∨ k = 8 ∨ k = 9 ∨ k = 10 ∨ k = 11 ∨ k = 12 ∨ k = 13 ∨ k = 14 ∨ k = 15 := by omega
   clear hk hk0 hlt
   rcases hc with rfl | rfl | rfl | rfl | rfl | rfl | rfl | rfl | rfl | rfl | rfl | rfl | rfl | rfl | rfl | rfl
   ·have hix : ∀ W : World, (Instr.index 130 (.agg #[.string ⟨#[105, 110, 99, 108, 117, 100, 101]⟩, .string ⟨#[97, 115]⟩, .string ⟨#[101, 120, 112, 111, 114, 116]⟩, .string ⟨#[99, 111, 110, 115, 116]⟩, .string ⟨#[102, 117, 110, 99]⟩, .string ⟨#[118, 97, 114]⟩, .string ⟨#[105, 102]⟩, .string ⟨#[101, 108, 115, 101]⟩, .string ⟨#[119, 104, 105, 108, 101]⟩, .string ⟨#[114, 101, 116, 117, 114, 110]⟩, .string ⟨#[112, 114, 105, 110, 116]⟩, .string ⟨#[116, 114, 117, 101]⟩, .string ⟨#[102, 97, 108, 115, 101]⟩, .string ⟨#[105, 110, 116]⟩, .string ⟨#[98, 111, 111, 108]⟩, .string ⟨#[116, 101, 120, 116]⟩]) (.int .i64 0)).run Tryz.prog W = .ok (.string ⟨#[105, 110, 99, 108, 117, 100, 101]⟩) W := fun W => by rfl
    by_cases hq : a0.toList = ([105, 110, 99, 108, 117, 100, 101] : List UInt8)
    ·have q0 : (a0.toList == ([105, 110, 99, 108, 117, 100, 101] : List UInt8)) = true := beq_iff_eq.mpr hq
     have HQ := Lib.hid hq
     clear hq
     go_wp2
     go_ret
     exact ⟨by rw [key_in a0 _ HQ.out (by decide)]; rfl, (Below.refl _ _).alloc (Nat.le_refl _) _⟩
    ·have q0 : (a0.toList == ([105, 110, 99, 108, 117, 100, 101] : List UInt8)) = false := beq_eq_false_iff_ne.mpr hq
     have HQ := Lib.hid hq
     clear hq
     go_wp2
     go_round
     case rel => exact ⟨1, by omega, by omega, by first | rfl | go_num, Lib.hid (key_next a0 0 _ rfl HN.out HQ.out)⟩
     case measure => simp [intOf]
   ·have hix : ∀ W : World, (Instr.index 130 (.agg #[.string ⟨#[105, 110, 99, 108, 117, 100, 101]⟩, .string ⟨#[97, 115]⟩, .string ⟨#[101, 120, 112, 111, 114, 116]⟩, .string ⟨#[99, 111, 110, 115, 116]⟩, .string ⟨#[102, 117, 110, 99]⟩, .string ⟨#[118, 97, 114]⟩, .string ⟨#[105, 102]⟩, .string ⟨#[101, 108, 115, 101]⟩, .string ⟨#[119, 104, 105, 108, 101]⟩, .string ⟨#[114, 101, 116, 117, 114, 110]⟩, .string ⟨#[112, 114, 105, 110, 116]⟩, .string ⟨#[116, 114, 117, 101]⟩, .string ⟨#[102, 97, 108, 115, 101]⟩, .string ⟨#[105, 110, 116]⟩, .string ⟨#[98, 111, 111, 108]⟩, .string ⟨#[116, 101, 120, 116]⟩]) (.int .i64 1)).run Tryz.prog W = .ok (.string ⟨#[97, 115]⟩) W := fun W => by rfl
    by_cases hq : a0.toList = ([97, 115] : List UInt8)
    ·have q0 : (a0.toList == ([97, 115] : List UInt8)) = true := beq_iff_eq.mpr hq
     have HQ := Lib.hid hq
     clear hq
     go_wp2
     go_ret
     exact ⟨by rw [key_in a0 _ HQ.out (by decide)]; rfl, (Below.refl _ _).alloc (Nat.le_refl _) _⟩
    ·have q0 : (a0.toList == ([97, 115] : List UInt8)) = false := beq_eq_false_iff_ne.mpr hq
     have HQ := Lib.hid hq
     clear hq
     go_wp2
     go_round
     case rel => exact ⟨2, by omega, by omega, by first | rfl | go_num, Lib.hid (key_next a0 1 _ rfl HN.out HQ.out)⟩
     case measure => simp [intOf]
   ·have hix : ∀ W : World, (Instr.index 130 (.agg #[.string ⟨#[105, 110, 99, 108, 117, 100, 101]⟩, .string ⟨#[97, 115]⟩, .string ⟨#[101, 120, 112, 111, 114, 116]⟩, .string ⟨#[99, 111, 110, 115, 116]⟩, .string ⟨#[102, 117, 110, 99]⟩, .string ⟨#[118, 97, 114]⟩, .string ⟨#[105, 102]⟩, .string ⟨#[101, 108, 115, 101]⟩, .string ⟨#[119, 104, 105, 108, 101]⟩, .string ⟨#[114, 101, 116, 117, 114, 110]⟩, .string ⟨#[112, 114, 105, 110, 116]⟩, .string ⟨#[116, 114, 117, 101]⟩, .string ⟨#[102, 97, 108, 115, 101]⟩, .string ⟨#[105, 110, 116]⟩, .string ⟨#[98, 111, 111, 108]⟩, .string ⟨#[116, 101, 120, 116]⟩]) (.int .i64 2)).run Tryz.prog W = .ok (.string ⟨#[101, 120, 112, 111, 114, 116]⟩) W := fun W => by rfl
    by_cases hq : a0.toList = ([101, 120, 112, 111, 114, 116] : List UInt8)
    ·have q0 : (a0.toList == ([101, 120, 112, 111, 114, 116] : List UInt8)) = true := beq_iff_eq.mpr hq
     have HQ := Lib.hid hq
     clear hq
     go_wp2
     go_ret
     exact ⟨by rw [key_in a0 _ HQ.out (by decide)]; rfl, (Below.refl _ _).alloc (Nat.le_refl _) _⟩
    ·have q0 : (a0.toList == ([101, 120, 112, 111, 114, 116] : List UInt8)) = false := beq_eq_false_iff_ne.mpr hq
     have HQ := Lib.hid hq
     clear hq
     go_wp2
     go_round
     case rel => exact ⟨3, by omega, by omega, by first | rfl | go_num, Lib.hid (key_next a0 2 _ rfl HN.out HQ.out)⟩
     case measure => simp [intOf]
   ·have hix : ∀ W : World, (Instr.index 130 (.agg #[.string ⟨#[105, 110, 99, 108, 117, 100, 101]⟩, .string ⟨#[97, 115]⟩, .string ⟨#[101, 120, 112, 111, 114, 116]⟩, .string ⟨#[99, 111, 110, 115, 116]⟩, .string ⟨#[102, 117, 110, 99]⟩, .string ⟨#[118, 97, 114]⟩, .string ⟨#[105, 102]⟩, .string ⟨#[101, 108, 115, 101]⟩, .string ⟨#[119, 104, 105, 108, 101]⟩, .string ⟨#[114, 101, 116, 117, 114, 110]⟩, .string ⟨#[112, 114, 105, 110, 116]⟩, .string ⟨#[116, 114, 117, 101]⟩, .string ⟨#[102, 97, 108, 115, 101]⟩, .string ⟨#[105, 110, 116]⟩, .string ⟨#[98, 111, 111, 108]⟩, .string ⟨#[116, 101, 120, 116]⟩]) (.int .i64 3)).run Tryz.prog W = .ok (.string ⟨#[99, 111, 110, 115, 116]⟩) W := fun W => by rfl
    by_cases hq : a0.toList = ([99, 111, 110, 115, 116] : List UInt8)
    ·have q0 : (a0.toList == ([99, 111, 110, 115, 116] : List UInt8)) = true := beq_iff_eq.mpr hq
     have HQ := Lib.hid hq
     clear hq
     go_wp2
     go_ret
     exact ⟨by rw [key_in a0 _ HQ.out (by decide)]; rfl, (Below.refl _ _).alloc (Nat.le_refl _) _⟩
    ·have q0 : (a0.toList == ([99, 111, 110, 115, 116] : List UInt8)) = false := beq_eq_false_iff_ne.mpr hq
     have HQ := Lib.hid hq
     clear hq
     go_wp2
     go_round
     case rel => exact ⟨4, by omega, by omega, by first | rfl | go_num, Lib.hid (key_next a0 3 _ rfl HN.out HQ.out)⟩
     case measure => simp [intOf]
   ·have hix : ∀ W : World, (Instr.index 130 (.agg #[.string ⟨#[105, 110, 99, 108, 117, 100, 101]⟩, .string ⟨#[97, 115]⟩, .string ⟨#[101, 120, 112, 111, 114, 116]⟩, .string ⟨#[99, 111, 110, 115, 116]⟩, .string ⟨#[102, 117, 110, 99]⟩, .string ⟨#[118, 97, 114]⟩, .string ⟨#[105, 102]⟩, .string ⟨#[101, 108, 115, 101]⟩, .string ⟨#[119, 104, 105, 108, 101]⟩, .string ⟨#[114, 101, 116, 117, 114, 110]⟩, .string ⟨#[112, 114, 105, 110, 116]⟩, .string ⟨#[116, 114, 117, 101]⟩, .string ⟨#[102, 97, 108, 115, 101]⟩, .string ⟨#[105, 110, 116]⟩, .string ⟨#[98, 111, 111, 108]⟩, .string ⟨#[116, 101, 120, 116]⟩]) (.int .i64 4)).run Tryz.prog W = .ok (.string ⟨#[102, 117, 110, 99]⟩) W := fun W => by rfl
    by_cases hq : a0.toList = ([102, 117, 110, 99] : List UInt8)
    ·have q0 : (a0.toList == ([102, 117, 110, 99] : List UInt8)) = true := beq_iff_eq.mpr hq
     have HQ := Lib.hid hq
     clear hq
     go_wp2
     go_ret
     exact ⟨by rw [key_in a0 _ HQ.out (by decide)]; rfl, (Below.refl _ _).alloc (Nat.le_refl _) _⟩
    ·have q0 : (a0.toList == ([102, 117, 110, 99] : List UInt8)) = false := beq_eq_false_iff_ne.mpr hq
     have HQ := Lib.hid hq
     clear hq
     go_wp2
     go_round
     case rel => exact ⟨5, by omega, by omega, by first | rfl | go_num, Lib.hid (key_next a0 4 _ rfl HN.out HQ.out)⟩
     case measure => simp [intOf]
   ·have hix : ∀ W : World, (Instr.index 130 (.agg #[.string ⟨#[105, 110, 99, 108, 117, 100, 101]⟩, .string ⟨#[97, 115]⟩, .string ⟨#[101, 120, 112, 111, 114, 116]⟩, .string ⟨#[99, 111, 110, 115, 116]⟩, .string ⟨#[102, 117, 110, 99]⟩, .string ⟨#[118, 97, 114]⟩, .string ⟨#[105, 102]⟩, .string ⟨#[101, 108, 115, 101]⟩, .string ⟨#[119, 104, 105, 108, 101]⟩, .string ⟨#[114, 101, 116, 117, 114, 110]⟩, .string ⟨#[112, 114, 105, 110, 116]⟩, .string ⟨#[116, 114, 117, 101]⟩, .string ⟨#[102, 97, 108, 115, 101]⟩, .string ⟨#[105, 110, 116]⟩, .string ⟨#[98, 111, 111, 108]⟩, .string ⟨#[116, 101, 120, 116]⟩]) (.int .i64 5)).run Tryz.prog W = .ok (.string ⟨#[118, 97, 114]⟩) W := fun W => by rfl
    by_cases hq : a0.toList = ([118, 97, 114] : List UInt8)
    ·have q0 : (a0.toList == ([118, 97, 114] : List UInt8)) = true := beq_iff_eq.mpr hq
     have HQ := Lib.hid hq
     clear hq
     go_wp2
     go_ret
     exact ⟨by rw [key_in a0 _ HQ.out (by decide)]; rfl, (Below.refl _ _).alloc (Nat.le_refl _) _⟩
    ·have q0 : (a0.toList == ([118, 97, 114] : List UInt8)) = false := beq_eq_false_iff_ne.mpr hq
     have HQ := Lib.hid hq
     clear hq
     go_wp2
     go_round
     case rel => exact ⟨6, by omega, by omega, by first | rfl | go_num, Lib.hid (key_next a0 5 _ rfl HN.out HQ.out)⟩
     case measure => simp [intOf]
   ·have hix : ∀ W : World, (Instr.index 130 (.agg #[.string ⟨#[105, 110, 99, 108, 117, 100, 101]⟩, .string ⟨#[97, 115]⟩, .string ⟨#[101, 120, 112, 111, 114, 116]⟩, .string ⟨#[99, 111, 110, 115, 116]⟩, .string ⟨#[102, 117, 110, 99]⟩, .string ⟨#[118, 97, 114]⟩, .string ⟨#[105, 102]⟩, .string ⟨#[101, 108, 115, 101]⟩, .string ⟨#[119, 104, 105, 108, 101]⟩, .string ⟨#[114, 101, 116, 117, 114, 110]⟩, .string ⟨#[112, 114, 105, 110, 116]⟩, .string ⟨#[116, 114, 117, 101]⟩, .string ⟨#[102, 97, 108, 115, 101]⟩, .string ⟨#[105, 110, 116]⟩, .string ⟨#[98, 111, 111, 108]⟩, .string ⟨#[116, 101, 120, 116]⟩]) (.int .i64 6)).run Tryz.prog W = .ok (.string ⟨#[105, 102]⟩) W := fun W => by rfl
    by_cases hq : a0.toList = ([105, 102] : List UInt8)
    ·have q0 : (a0.toList == ([105, 102] : List UInt8)) = true := beq_iff_eq.mpr hq
     have HQ := Lib.hid hq
     clear hq
     go_wp2
     go_ret
     exact ⟨by rw [key_in a0 _ HQ.out (by decide)]; rfl, (Below.refl _ _).alloc (Nat.le_refl _) _⟩
    ·have q0 : (a0.toList == ([105, 102] : List UInt8)) = false := beq_eq_false_iff_ne.mpr hq
     have HQ := Lib.hid hq
     clear hq
     go_wp2
     go_round
     case rel => exact ⟨7, by omega, by omega, by first | rfl | go_num, Lib.hid (key_next a0 6 _ rfl HN.out HQ.out)⟩
     case measure => simp [intOf]
   ·have hix : ∀ W : World, (Instr.index 130 (.agg #[.string ⟨#[105, 110, 99, 108, 117, 100, 101]⟩, .string ⟨#[97, 115]⟩, .string ⟨#[101, 120, 112, 111, 114, 116]⟩, .string ⟨#[99, 111, 110, 115, 116]⟩, .string ⟨#[102, 117, 110, 99]⟩, .string ⟨#[118, 97, 114]⟩, .string ⟨#[105, 102]⟩, .string ⟨#[101, 108, 115, 101]⟩, .string ⟨#[119, 104, 105, 108, 101]⟩, .string ⟨#[114, 101, 116, 117, 114, 110]⟩, .string ⟨#[112, 114, 105, 110, 116]⟩, .string ⟨#[116, 114, 117, 101]⟩, .string ⟨#[102, 97, 108, 115, 101]⟩, .string ⟨#[105, 110, 116]⟩, .string ⟨#[98, 111, 111, 108]⟩, .string ⟨#[116, 101, 120, 116]⟩]) (.int .i64 7)).run Tryz.prog W = .ok (.string ⟨#[101, 108, 115, 101]⟩) W := fun W => by rfl
    by_cases hq : a0.toList = ([101, 108, 115, 101] : List UInt8)
    ·have q0 : (a0.toList == ([101, 108, 115, 101] : List UInt8)) = true := beq_iff_eq.mpr hq
     have HQ := Lib.hid hq
     clear hq
     go_wp2
     go_ret
     exact ⟨by rw [key_in a0 _ HQ.out (by decide)]; rfl, (Below.refl _ _).alloc (Nat.le_refl _) _⟩
    ·have q0 : (a0.toList == ([101, 108, 115, 101] : List UInt8)) = false := beq_eq_false_iff_ne.mpr hq
     have HQ := Lib.hid hq
     clear hq
     go_wp2
     go_round
     case rel => exact ⟨8, by omega, by omega, by first | rfl | go_num, Lib.hid (key_next a0 7 _ rfl HN.out HQ.out)⟩
     case measure => simp [intOf]
   ·have hix : ∀ W : World, (Instr.index 130 (.agg #[.string ⟨#[105, 110, 99, 108, 117, 100, 101]⟩, .string ⟨#[97, 115]⟩, .string ⟨#[101, 120, 112, 111, 114, 116]⟩, .string ⟨#[99, 111, 110, 115, 116]⟩, .string ⟨#[102, 117, 110, 99]⟩, .string ⟨#[118, 97, 114]⟩, .string ⟨#[105, 102]⟩, .string ⟨#[101, 108, 115, 101]⟩, .string ⟨#[119, 104, 105, 108, 101]⟩, .string ⟨#[114, 101, 116, 117, 114, 110]⟩, .string ⟨#[112, 114, 105, 110, 116]⟩, .string ⟨#[116, 114, 117, 101]⟩, .string ⟨#[102, 97, 108, 115, 101]⟩, .string ⟨#[105, 110, 116]⟩, .string ⟨#[98, 111, 111, 108]⟩, .string ⟨#[116, 101, 120, 116]⟩]) (.int .i64 8)).run Tryz.prog W = .ok (.string ⟨#[119, 104, 105, 108, 101]⟩) W := fun W => by rfl
    by_cases hq : a0.toList = ([119, 104, 105, 108, 101] : List UInt8)
    ·have q0 : (a0.toList == ([119, 104, 105, 108, 101] : List UInt8)) = true := beq_iff_eq.mpr hq
     have HQ := Lib.hid hq
     clear hq
     go_wp2
     go_ret
     exact ⟨by rw [key_in a0 _ HQ.out (by decide)]; rfl, (Below.refl _ _).alloc (Nat.le_refl _) _⟩
    ·have q0 : (a0.toList == ([119, 104, 105, 108, 101] : List UInt8)) = false := beq_eq_false_iff_ne.mpr hq
     have HQ := Lib.hid hq
     clear hq
     go_wp2
     go_round
     case rel => exact ⟨9, by omega, by omega, by first | rfl | go_num, Lib.hid (key_next a0 8 _ rfl HN.out HQ.out)⟩
     case measure => simp [intOf]
   ·have hix : ∀ W : World, (Instr.index 130 (.agg #[.string ⟨#[105, 110, 99, 108, 117, 100, 101]⟩, .string ⟨#[97, 115]⟩, .string ⟨#[101, 120, 112, 111, 114, 116]⟩, .string ⟨#[99, 111, 110, 115, 116]⟩, .string ⟨#[102, 117, 110, 99]⟩, .string ⟨#[118, 97, 114]⟩, .string ⟨#[105, 102]⟩, .string ⟨#[101, 108, 115, 101]⟩, .string ⟨#[119, 104, 105, 108, 101]⟩, .string ⟨#[114, 101, 116, 117, 114, 110]⟩, .string ⟨#[112, 114, 105, 110, 116]⟩, .string ⟨#[116, 114, 117, 101]⟩, .string ⟨#[102, 97, 108, 115, 101]⟩, .string ⟨#[105, 110, 116]⟩, .string ⟨#[98, 111, 111, 108]⟩, .string ⟨#[116, 101, 120, 116]⟩]) (.int .i64 9)).run Tryz.prog W = .ok (.string ⟨#[114, 101, 116, 117, 114, 110]⟩) W := fun W => by rfl
    by_cases hq : a0.toList = ([114, 101, 116, 117, 114, 110] : List UInt8)
    ·have q0 : (a0.toList == ([114, 101, 116, 117, 114, 110] : List UInt8)) = true := beq_iff_eq.mpr hq
     have HQ := Lib.hid hq
     clear hq
     go_wp2
     go_ret
     exact ⟨by rw [key_in a0 _ HQ.out (by decide)]; rfl, (Below.refl _ _).alloc (Nat.le_refl _) _⟩
    ·have q0 : (a0.toList == ([114, 101, 116, 117, 114, 110] : List UInt8)) = false := beq_eq_false_iff_ne.mpr hq
     have HQ := Lib.hid hq
     clear hq
     go_wp2
     go_round
     case rel => exact ⟨10, by omega, by omega, by first | rfl | go_num, Lib.hid (key_next a0 9 _ rfl HN.out HQ.out)⟩
     case measure => simp [intOf]
   ·have hix : ∀ W : World, (Instr.index 130 (.agg #[.string ⟨#[105, 110, 99, 108, 117, 100, 101]⟩, .string ⟨#[97, 115]⟩, .string ⟨#[101, 120, 112, 111, 114, 116]⟩, .string ⟨#[99, 111, 110, 115, 116]⟩, .string ⟨#[102, 117, 110, 99]⟩, .string ⟨#[118, 97, 114]⟩, .string ⟨#[105, 102]⟩, .string ⟨#[101, 108, 115, 101]⟩, .string ⟨#[119, 104, 105, 108, 101]⟩, .string ⟨#[114, 101, 116, 117, 114, 110]⟩, .string ⟨#[112, 114, 105, 110, 116]⟩, .string ⟨#[116, 114, 117, 101]⟩, .string ⟨#[102, 97, 108, 115, 101]⟩, .string ⟨#[105, 110, 116]⟩, .string ⟨#[98, 111, 111, 108]⟩, .string ⟨#[116, 101, 120, 116]⟩]) (.int .i64 10)).run Tryz.prog W = .ok (.string ⟨#[112, 114, 105, 110, 116]⟩) W := fun W => by rfl
    by_cases hq : a0.toList = ([112, 114, 105, 110, 116] : List UInt8)
    ·have q0 : (a0.toList == ([112, 114, 105, 110, 116] : List UInt8)) = true := beq_iff_eq.mpr hq
     have HQ := Lib.hid hq
     clear hq
     go_wp2
     go_ret
     exact ⟨by rw [key_in a0 _ HQ.out (by decide)]; rfl, (Below.refl _ _).alloc (Nat.le_refl _) _⟩
    ·have q0 : (a0.toList == ([112, 114, 105, 110, 116] : List UInt8)) = false := beq_eq_false_iff_ne.mpr hq
     have HQ := Lib.hid hq
     clear hq
     go_wp2
     go_round
     case rel => exact ⟨11, by omega, by omega, by first | rfl | go_num, Lib.hid (key_next a0 10 _ rfl HN.out HQ.out)⟩
     case measure => simp [intOf]
   ·have hix : ∀ W : World, (Instr.index 130 (.agg #[.string ⟨#[105, 110, 99, 108, 117, 100, 101]⟩, .string ⟨#[97, 115]⟩, .string ⟨#[101, 120, 112, 111, 114, 116]⟩, .string ⟨#[99, 111, 110, 115, 116]⟩, .string ⟨#[102, 117, 110, 99]⟩, .string ⟨#[118, 97, 114]⟩, .string ⟨#[105, 102]⟩, .string ⟨#[101, 108, 115, 101]⟩, .string ⟨#[119, 104, 105, 108, 101]⟩, .string ⟨#[114, 101, 116, 117, 114, 110]⟩, .string ⟨#[112, 114, 105, 110, 116]⟩, .string ⟨#[116, 114, 117, 101]⟩, .string ⟨#[102, 97, 108, 115, 101]⟩, .string ⟨#[105, 110, 116]⟩, .string ⟨#[98, 111, 111, 108]⟩, .string ⟨#[116, 101, 120, 116]⟩]) (.int .i64 11)).run Tryz.prog W = .ok (.string ⟨#[116, 114, 117, 101]⟩) W := fun W => by rfl
    by_cases hq : a0.toList = ([116, 114, 117, 101] : List UInt8)
    ·have q0 : (a0.toList == ([116, 114, 117, 101] : List UInt8)) = true := beq_iff_eq.mpr hq
     have HQ := Lib.hid hq
     clear hq
     go_wp2
     go_ret
     exact ⟨by rw [key_in a0 _ HQ.out (by decide)]; rfl, (Below.refl _ _).alloc (Nat.le_refl _) _⟩
    ·have q0 : (a0.toList == ([116, 114, 117, 101] : List UInt8)) = false := beq_eq_false_iff_ne.mpr hq
     have HQ := Lib.hid hq
     clear hq
     go_wp2
     go_round
     case rel => exact ⟨12, by omega, by omega, by first | rfl | go_num, Lib.hid (key_next a0 11 _ rfl HN.out HQ.out)⟩
     case measure => simp [intOf]
   ·have hix : ∀ W : World, (Instr.index 130 (.agg #[.string ⟨#[105, 110, 99, 108, 117, 100, 101]⟩, .string ⟨#[97, 115]⟩, .string ⟨#[101, 120, 112, 111, 114, 116]⟩, .string ⟨#[99, 111, 110, 115, 116]⟩, .string ⟨#[102, 117, 110, 99]⟩, .string ⟨#[118, 97, 114]⟩, .string ⟨#[105, 102]⟩, .string ⟨#[101, 108, 115, 101]⟩, .string ⟨#[119, 104, 105, 108, 101]⟩, .string ⟨#[114, 101, 116, 117, 114, 110]⟩, .string ⟨#[112, 114, 105, 110, 116]⟩, .string ⟨#[116, 114, 117, 101]⟩, .string ⟨#[102, 97, 108, 115, 101]⟩, .string ⟨#[105, 110, 116]⟩, .string ⟨#[98, 111, 111, 108]⟩, .string ⟨#[116, 101, 120, 116]⟩]) (.int .i64 12)).run Tryz.prog W = .ok (.string ⟨#[102, 97, 108, 115, 101]⟩) W := fun W => by rfl
    by_cases hq : a0.toList = ([102, 97, 108, 115, 101] : List UInt8)
    ·have q0 : (a0.toList == ([102, 97, 108, 115, 101] : List UInt8)) = true := beq_iff_eq.mpr hq
     have HQ := Lib.hid hq
     clear hq
     go_wp2
     go_ret
     exact ⟨by rw [key_in a0 _ HQ.out (by decide)]; rfl, (Below.refl _ _).alloc (Nat.le_refl _) _⟩
    ·have q0 : (a0.toList == ([102, 97, 108, 115, 101] : List UInt8)) = false := beq_eq_false_iff_ne.mpr hq
     have HQ := Lib.hid hq
     clear hq
     go_wp2
     go_round
     case rel => exact ⟨13, by omega, by omega, by first | rfl | go_num, Lib.hid (key_next a0 12 _ rfl HN.out HQ.out)⟩
     case measure => simp [intOf]
   ·have hix : ∀ W : World, (Instr.index 130 (.agg #[.string ⟨#[105, 110, 99, 108, 117, 100, 101]⟩, .string ⟨#[97, 115]⟩, .string ⟨#[101, 120, 112, 111, 114, 116]⟩, .string ⟨#[99, 111, 110, 115, 116]⟩, .string ⟨#[102, 117, 110, 99]⟩, .string ⟨#[118, 97, 114]⟩, .string ⟨#[105, 102]⟩, .string ⟨#[101, 108, 115, 101]⟩, .string ⟨#[119, 104, 105, 108, 101]⟩, .string ⟨#[114, 101, 116, 117, 114, 110]⟩, .string ⟨#[112, 114, 105, 110, 116]⟩, .string ⟨#[116, 114, 117, 101]⟩, .string ⟨#[102, 97, 108, 115, 101]⟩, .string ⟨#[105, 110, 116]⟩, .string ⟨#[98, 111, 111, 108]⟩, .string ⟨#[116, 101, 120, 116]⟩]) (.int .i64 13)).run Tryz.prog W = .ok (.string ⟨#[105, 110, 116]⟩) W := fun W => by rfl
    by_cases hq : a0.toList = ([105, 110, 116] : List UInt8)
    ·have q0 : (a0.toList == ([105, 110, 116] : List UInt8)) = true := beq_iff_eq.mpr hq
     have HQ := Lib.hid hq
     clear hq
     go_wp2
     go_ret
     exact ⟨by rw [key_in a0 _ HQ.out (by decide)]; rfl, (Below.refl _ _).alloc (Nat.le_refl _) _⟩
    ·have q0 : (a0.toList == ([105, 110, 116] : List UInt8)) = false := beq_eq_false_iff_ne.mpr hq
     have HQ := Lib.hid hq
     clear hq
     go_wp2
     go_round
     case rel => exact ⟨14, by omega, by omega, by first | rfl | go_num, Lib.hid (key_next a0 13 _ rfl HN.out HQ.out)⟩
     case measure => simp [intOf]
   ·have hix : ∀ W : World, (Instr.index 130 (.agg #[.string ⟨#[105, 110, 99, 108, 117, 100, 101]⟩, .string ⟨#[97, 115]⟩, .string ⟨#[101, 120, 112, 111, 114, 116]⟩, .string ⟨#[99, 111, 110, 115, 116]⟩, .string ⟨#[102, 117, 110, 99]⟩, .string ⟨#[118, 97, 114]⟩, .string ⟨#[105, 102]⟩, .string ⟨#[101, 108, 115, 101]⟩, .string ⟨#[119, 104, 105, 108, 101]⟩, .string ⟨#[114, 101, 116, 117, 114, 110]⟩, .string ⟨#[112, 114, 105, 110, 116]⟩, .string ⟨#[116, 114, 117, 101]⟩, .string ⟨#[102, 97, 108, 115, 101]⟩, .string ⟨#[105, 110, 116]⟩, .string ⟨#[98, 111, 111, 108]⟩, .string ⟨#[116, 101, 120, 116]⟩]) (.int .i64 14)).run Tryz.prog W = .ok (.string ⟨#[98, 111, 111, 108]⟩) W := fun W => by rfl
    by_cases hq : a0.toList = ([98, 111, 111, 108] : List UInt8)
    ·have q0 : (a0.toList == ([98, 111, 111, 108] : List UInt8)) = true := beq_iff_eq.mpr hq
     have HQ := Lib.hid hq
     clear hq
     go_wp2
     go_ret
     exact ⟨by rw [key_in a0 _ HQ.out (by decide)]; rfl, (Below.refl _ _).alloc (Nat.le_refl _) _⟩
    ·have q0 : (a0.toList == ([98, 111, 111, 108] : List UInt8)) = false := beq_eq_false_iff_ne.mpr hq
     have HQ := Lib.hid hq
     clear hq
     go_wp2
     go_round
     case rel => exact ⟨15, by omega, by omega, by first | rfl | go_num, Lib.hid (key_next a0 14 _ rfl HN.out HQ.out)⟩
     case measure => simp [intOf]
   ·have hix : ∀ W : World, (Instr.index 130 (.agg #[.string ⟨#[105, 110, 99, 108, 117, 100, 101]⟩, .string ⟨#[97, 115]⟩, .string ⟨#[101, 120, 112, 111, 114, 116]⟩, .string ⟨#[99, 111, 110, 115, 116]⟩, .string ⟨#[102, 117, 110, 99]⟩, .string ⟨#[118, 97, 114]⟩, .string ⟨#[105, 102]⟩, .string ⟨#[101, 108, 115, 101]⟩, .string ⟨#[119, 104, 105, 108, 101]⟩, .string ⟨#[114, 101, 116, 117, 114, 110]⟩, .string ⟨#[112, 114, 105, 110, 116]⟩, .string ⟨#[116, 114, 117, 101]⟩, .string ⟨#[102, 97, 108, 115, 101]⟩, .string ⟨#[105, 110, 116]⟩, .string ⟨#[98, 111, 111, 108]⟩, .string ⟨#[116, 101, 120, 116]⟩]) (.int .i64 15)).run Tryz.prog W = .ok (.string ⟨#[116, 101, 120, 116]⟩) W := fun W => by rfl
    by_cases hq : a0.toList = ([116, 101, 120, 116] : List UInt8)
    ·have q0 : (a0.toList == ([116, 101, 120, 116] : List UInt8)) = true := beq_iff_eq.mpr hq
     have HQ := Lib.hid hq
     clear hq
     go_wp2
     go_ret
     exact ⟨by rw [key_in a0 _ HQ.out (by decide)]; rfl, (Below.refl _ _).alloc (Nat.le_refl _) _⟩
    ·have q0 : (a0.toList == ([116, 101, 120, 116] : List UInt8)) = false := beq_eq_false_iff_ne.mpr hq
     have HQ := Lib.hid hq
     clear hq
     go_wp2
     go_round
     case rel => exact ⟨16, by omega, by omega, by first | rfl | go_num, Lib.hid (key_next a0 15 _ rfl HN.out HQ.out)⟩
     case measure => simp [intOf]
  ·have hk16 : k = 16 := by omega
   subst hk16
   clear hlt hk hk0
   go_wp2
   go_ret
   exact ⟨by rw [key_at a0 16 HN.out (by decide)]; rfl, (Below.refl _ _).alloc (Nat.le_refl _) _⟩
theorem parse_ok (s : ByteArray) (v : Int) (hs : s.size ≤ 1099511627776) (h : Lib.parseIntB 64 s.data.toList = .ok v) (w : World) :
  Calls Tryz.prog 97 #[.string s, .int .i64 10, .int .i64 64] w fun e w' => e = .returned (.tuple #[.int .i64 v, .nilIface]) ∧ Below w.heap.size w w' :=
 (Tryz.strconv_ParseInt_10_at64_ok s (by omega) v h w).mono fun e w' ⟨he, hw⟩ => ⟨he, by
  rcases hw with rfl | ⟨t, rfl⟩
  ·exact Below.refl _ _
  ·exact ⟨rfl, rfl, rfl, by rw [Lib.bytesWorld_size]; omega, fun j hj => Lib.bytesWorld_at_old w _ t j hj⟩⟩
theorem parse_range (s : ByteArray) (hs : s.size ≤ 1099511627776) (h : Lib.parseIntB 64 s.data.toList = .range) (c : UInt8) (r : List UInt8) (hl : s.data.toList = c :: r) (hd : isDigit (c.toNat : Int) = true) (w : World) (hI : Inv w) :
  Calls Tryz.prog 97 #[.string s, .int .i64 10, .int .i64 64] w fun e w' => (∃ t p, e = .returned (.tuple #[.int .i64 9223372036854775807, .iface t (.pointer (some p))])) ∧ Below w.heap.size w w' := by
 obtain ⟨ev, h1, h2⟩ := hI.rng
 have e1 : Lib.intSat 64 s.data.toList = 9223372036854775807 := by
  rw [hl]
  unfold Lib.intSat
  rw [if_neg]
  ·rfl
  ·simp only [List.head?_cons, Option.map_some, Option.some.injEq]
   intro hc
   unfold isDigit at hd
   simp only [Bool.and_eq_true, decide_eq_true_eq] at hd
   omega
 refine (Tryz.strconv_ParseInt_10_at64_range s (by omega) h ev w h1 h2).mono fun e w' ⟨N, he, _, _, hb⟩ => ?_
 rw [e1] at he
 exact ⟨⟨_, _, he⟩, hb⟩
theorem format_ok (v : Int) (h0 : -9223372036854775808 ≤ v) (h1 : v ≤ 9223372036854775807) (w : World) (hI : Inv w) :
  Calls Tryz.prog 98 #[.int .i64 v, .int .i64 10] w fun e w' => e = .returned (.string ⟨(Lib.itoa v).toArray⟩) ∧ Below w.heap.size w w' :=
 (Tryz.strconv_FormatInt_10 v h0 h1 w hI.pow).mono fun e w' ⟨he, k, os, hw⟩ => ⟨he, by
  rw [hw]
  have h2 : Below w.heap.size w (w.drewN k) := pw_below_drewN (Below.refl _ _) _
  refine h2.trans ?_
  exact ⟨rfl, rfl, rfl, by show (w.drewN k).heap.size ≤ ((w.drewN k).heap ++ os).size; rw [Array.size_append]; omega, fun j hj => by show ((w.drewN k).heap ++ os)[j]? = _; exact Array.getElem?_append_left hj⟩⟩
theorem parseIntB_range {l : List UInt8} {v : Int} (h : Lib.parseIntB 64 l = .ok v) : -9223372036854775808 ≤ v ∧ v ≤ 9223372036854775807 := by
 unfold Lib.parseIntB at h
 cases l with
 | nil => cases h
 | cons c r =>
  simp only at h
  split at h
  ·cases h
  ·cases h
  ·rename_i u hu
   repeat' split at h
   all_goals first | (cases h; omega) | (simp at h; omega) | cases h
set_option maxHeartbeats 4000000 in
set_option maxRecDepth 100000 in
theorem lex_whole.calls (a0 : ByteArray) (r1 : Int) (r2 : Bool) (w : World) (h : lex_whole.f a0 = some (r1, r2)) (hI : Inv w) :
  Calls Tryz.prog 82 #[.string a0] w fun e w' => e = .returned (.tuple #[.int .i64 r1, .bool r2]) ∧ Below w.heap.size w w' := by
 unfold lex_whole.f at h
 cases hl : a0.data.toList with
 | nil => rw [hl] at h; cases h
 | cons c r =>
  rw [hl] at h
  dsimp only at h
  split at h
  ·rename_i hc
   obtain ⟨hd, hs⟩ := hc
   have HI := Aside0.mk hI
   clear hI
   have HB := Aside0.mk (Below.refl w.heap.size w)
   cases hp : Lib.parseIntB 64 (c :: r) with
   | range =>
    rw [hp] at h
    cases h
    have HP := Lib.hid (parse_range a0 hs (by rw [hl]; exact hp) c r hl hd)
    clear hl hp hd hs
    go_enter Tryz.func82, Tryz.ntmps82
    go_wp2_with (go_at_call 97; refine (HP.out _ HI.out).mono ?_; rintro e w' ⟨⟨t, p, rfl⟩, hb⟩; have HB2 := Aside0.mk hb; clear hb)
    go_ret2
    exact ⟨rfl, HB2.out⟩
   | ok v =>
    rw [hp] at h
    dsimp only at h
    obtain ⟨hv0, hv1⟩ := parseIntB_range hp
    have HP := Lib.hid (parse_ok a0 v hs (by rw [hl]; exact hp))
    have h0 : 0 < a0.size := by
     have : a0.data.toList.length = a0.size := by obtain ⟨⟨l⟩⟩ := a0; rfl
     rw [hl] at this; simp at this; omega
    have hb0 : bt a0 0 = (c.toNat : Int) := by
     obtain ⟨⟨l⟩⟩ := a0
     simp only at hl
     subst hl
     unfold bt
     rw [dif_pos (show Int.toNat 0 < (⟨⟨c :: r⟩⟩ : ByteArray).size from h0)]; rfl
    have HD := Lib.hid (show isDigit (bt a0 0) = true by rw [hb0]; exact hd)
    have HF := Lib.hid (format_ok v hv0 hv1)
    have hx3 : ∀ h : 0 < a0.size, ((a0[0]'h).toNat : Int) = bt a0 0 := bt_at a0 0
    have qi3 : (0 < (a0.size : Int)) = True := eq_true (by omega)
    replace h0 := eq_true h0
    obtain ⟨h, hr2⟩ : r1 = v ∧ r2 = decide (Lib.itoa v = c :: r) := by
     injection h with h; injection h with h h'; exact ⟨h.symm, h'.symm⟩
    subst h
    by_cases he : Lib.itoa r1 = c :: r
    ·have e1 : (Lib.itoa r1 == a0.toList) = true := by
      rw [beq_iff_eq, ByteArray.toList_eq, hl]; exact he
     rw [decide_eq_true he] at hr2
     subst hr2
     clear hl hp hd hs hb0 he hv0 hv1
     go_enter Tryz.func82, Tryz.ntmps82
     go_wp2_with (first
      | (go_at_call 97; refine (HP.out _).mono ?_; rintro e w' ⟨rfl, hb⟩; have HB2 := Aside0.mk hb; clear hb)
      | (go_at_call 98; refine (HF.out _ (Inv.below HI.out HB2.out)).mono ?_; rintro e w2 ⟨rfl, hb⟩; have HB3 := Aside0.mk (HB2.out.trans (hb.mono (below_size HB2.out))); clear hb)
      | (go_at_call 80; refine (digit_calls' _ _).mono ?_; rintro e w' ⟨rfl, rfl⟩; rw [HD.out]))
     go_ret2
     exact ⟨rfl, HB3.out⟩
    ·have e1 : (Lib.itoa r1 == a0.toList) = false := by
      rw [beq_eq_false_iff_ne, ByteArray.toList_eq, hl]
      exact he
     rw [decide_eq_false he] at hr2
     subst hr2
     clear hl hp hd hs hb0 he hv0 hv1
     go_enter Tryz.func82, Tryz.ntmps82
     go_wp2_with (first
      | (go_at_call 97; refine (HP.out _).mono ?_; rintro e w' ⟨rfl, hb⟩; have HB2 := Aside0.mk hb; clear hb)
      | (go_at_call 98; refine (HF.out _ (Inv.below HI.out HB2.out)).mono ?_; rintro e w2 ⟨rfl, hb⟩; have HB3 := Aside0.mk (HB2.out.trans (hb.mono (below_size HB2.out))); clear hb)
      | (go_at_call 80; refine (digit_calls' _ _).mono ?_; rintro e w' ⟨rfl, rfl⟩; rw [HD.out]))
     go_ret2
     exact ⟨rfl, HB3.out⟩
   | _ => rw [hp] at h; cases h
  ·cases h
set_option maxHeartbeats 1000000 in
set_option maxRecDepth 100000 in
theorem stringslite_IndexByte.calls (a0 : ByteArray) (a1 : Int) (r : Int) (w : World) (h : stringslite_IndexByte.f a0 a1 = some r) :
  Calls Tryz.prog 89 #[.string a0, .int .u8 a1] w fun e w' => e = .returned (.int .i64 r) ∧ Drawn0 w w' := by
 obtain rfl := Option.some.inj h
 go_enter Tryz.func89, Tryz.ntmps89
 go_wp2
 rw [run_callFunc_extern Tryz.func102 (by kernel_rfl) (by kernel_rfl) (by kernel_rfl) (e := Extern.BytealgIndexByte.indexByte) (by kernel_rfl), Lib.run_indexByteString]
 simp only [Result.andThen]
 rw [Oper.upon_value]
 go_wp2
 go_ret
 exact ⟨rfl, Drawn0.refl _⟩
set_option maxHeartbeats 8000000 in
set_option maxRecDepth 100000 in
theorem strings_IndexByte.calls (a0 : ByteArray) (a1 : Int) (r : Int) (w : World) (h : strings_IndexByte.f a0 a1 = some r) :
  Calls Tryz.prog 94 #[.string a0, .int .u8 a1] w fun e w' => e = .returned (.int .i64 r) ∧ Drawn0 w w' := by
 have H : ((stringslite_IndexByte.f a0 a1).bind fun t300 => (some t300)) = some r := h
 clear h
 replace H := Option.bind_eq_some_iff.mp H
 obtain ⟨t300, A30, H⟩ := H
 replace H : (some t300) = some r := H
 have A3 := Aside0.mk A30
 clear A30
 obtain rfl := Option.some.inj H
 go_enter Tryz.func94, Tryz.ntmps94
 go_wp2_with (first | ((with_reducible refine gate_callee (f := 89) rfl ?_); refine goesL_ (some 7) rfl rfl Tryz.func89 (by kernel_rfl) rfl #[.string a0, .int .u8 a1] rfl (am.trans (by rfl)) ?_; (with_reducible refine (stringslite_IndexByte.calls a0 a1 t300 _ A3.out).mono ?_); rintro e w' ⟨rfl, ⟨nd, rfl⟩⟩; refine ⟨_, rfl, ?_⟩))
 go_ret
 exact ⟨by first | rfl | (simp; done) | (simp [*]; done), by repeat (first | exact Drawn0.refl _ | apply Drawn0.step)⟩
theorem pre_two (a0 : ByteArray) (t : List UInt8) (ht : t.length = 2) : strings_HasPrefix.f a0 ⟨t.toArray⟩ = some (decide (a0.data.toList.take 2 = t)) := by
 unfold strings_HasPrefix.f stringslite_HasPrefix.f
 have h1 : ((⟨t.toArray⟩ : ByteArray).size : Int) = 2 := by show ((t.toArray.size : Nat) : Int) = 2; simp [ht]
 have hl : a0.data.toList.length = a0.size := by obtain ⟨⟨l⟩⟩ := a0; rfl
 rw [h1]
 by_cases h : (a0.size : Int) ≥ 2
 ·rw [if_pos h, if_pos (by omega), if_pos (by omega)]
  simp only [Option.bind_some]
  rw [ByteArray.toList_eq, ByteArray.toList_eq, Lib.extract_data]
  simp
  rw [Bool.eq_iff_iff]; simp
 ·rw [if_neg h]
  simp only [Option.bind_some]
  have : a0.data.toList.take 2 ≠ t := by
   intro e
   have := congrArg List.length e
   rw [List.length_take] at this
   omega
  rw [decide_eq_false this]
theorem sign_any (a0 : ByteArray) (k : Nat) (h : ∀ x ∈ twoSigns.take k, a0.data.toList.take 2 ≠ x) (hk : 7 ≤ k) : twoSigns.any (fun t => decide (a0.data.toList.take 2 = t)) = false := by
 rw [List.take_of_length_le (by show 7 ≤ k; exact hk)] at h
 rw [List.any_eq_false]
 intro x hx
 simpa using h x hx
theorem sign_in (a0 : ByteArray) (x : List UInt8) (h : a0.data.toList.take 2 = x) (hx : x ∈ twoSigns) : twoSigns.any (fun t => decide (a0.data.toList.take 2 = t)) = true := by
 rw [List.any_eq_true]
 exact ⟨x, hx, by simpa using h⟩
theorem sign_next (a0 : ByteArray) (k : Nat) (x : List UInt8) (hx : twoSigns[k]? = some x) (h : ∀ x ∈ twoSigns.take k, a0.data.toList.take 2 ≠ x) (hn : a0.data.toList.take 2 ≠ x) : ∀ x ∈ twoSigns.take (k + 1), a0.data.toList.take 2 ≠ x := by
 intro y hy
 rw [List.take_add_one, hx] at hy
 simp only [Option.toList_some, List.mem_append, List.mem_singleton] at hy
 rcases hy with hy | rfl
 ·exact h y hy
 ·exact hn
set_option maxHeartbeats 8000000 in
set_option maxRecDepth 100000 in
theorem lex_sign.calls (a0 : ByteArray) (r : Int) (w : World) (h : lex_sign.f a0 = some r) :
  Calls Tryz.prog 83 #[.string a0] w fun e w' => e = .returned (.int .i64 r) ∧ Below w.heap.size w w' := by
 have H := Lib.hid h
 clear h
 go_enter Tryz.func83, Tryz.ntmps83
 go_wp2
 go_loopw [8] (fun i w' => ∃ k : Int, 0 ≤ k ∧ k ≤ 7 ∧ i = .int .i64 k ∧ Hid (∀ x ∈ twoSigns.take k.toNat, a0.data.toList.take 2 ≠ x) ∧ Aside0 (Below w.heap.size w w')) (fun i _ => 7 - (intOf i).toNat)
 case atStart => exact ⟨0, by omega, by omega, rfl, Lib.hid (by simp), ⟨(Below.refl _ _).alloc (Nat.le_refl _) _⟩⟩
 case round =>
  obtain ⟨k, hk0, hk, rfl, HN, HB⟩ := hrel
  by_cases hlt : k < 7
  ·have hc : k = 0 ∨ k = 1 ∨ k = 2 ∨ k = 3 ∨ k = 4 ∨ k = 5 ∨ k = 6 := by omega
   clear hk hk0 hlt
   rcases hc with rfl | rfl | rfl | rfl | rfl | rfl | rfl
   ·have hix : ∀ W : World, (Instr.index 134 (.agg #[.string ⟨#[61, 61]⟩, .string ⟨#[33, 61]⟩, .string ⟨#[60, 61]⟩, .string ⟨#[62, 61]⟩, .string ⟨#[43, 43]⟩, .string ⟨#[38, 38]⟩, .string ⟨#[124, 124]⟩]) (.int .i64 0)).run Tryz.prog W = .ok (.string ⟨#[61, 61]⟩) W := fun W => by rfl
    by_cases hq : a0.data.toList.take 2 = ([61, 61] : List UInt8)
    ·have hp := pre_two a0 [61, 61] rfl
     rw [decide_eq_true hq] at hp
     have HQ := Lib.hid hq
     clear hq
     have HP := Lib.hid hp
     clear hp
     go_wp2_with (go_at_call 66; refine (strings_HasPrefix.calls _ _ true _ HP.out).mono ?_; rintro e w' ⟨rfl, ⟨nd, rfl⟩⟩)
     go_ret
     have h2 := H.out
     unfold lex_sign.f at h2
     rw [if_pos (sign_in a0 _ HQ.out (by decide))] at h2
     obtain rfl := Option.some.inj h2
     exact ⟨rfl, pw_below_drewN HB.out _⟩
    ·have hp := pre_two a0 [61, 61] rfl
     rw [decide_eq_false hq] at hp
     have HQ := Lib.hid hq
     clear hq
     have HP := Lib.hid hp
     clear hp
     go_wp2_with (go_at_call 66; refine (strings_HasPrefix.calls _ _ false _ HP.out).mono ?_; rintro e w' ⟨rfl, ⟨nd, rfl⟩⟩)
     go_roundw
     case rel => exact ⟨1, by omega, by omega, by first | rfl | go_num, Lib.hid (sign_next a0 0 _ rfl HN.out HQ.out), ⟨pw_below_drewN HB.out _⟩⟩
     case measure => simp [intOf]
   ·have hix : ∀ W : World, (Instr.index 134 (.agg #[.string ⟨#[61, 61]⟩, .string ⟨#[33, 61]⟩, .string ⟨#[60, 61]⟩, .string ⟨#[62, 61]⟩, .string ⟨#[43, 43]⟩, .string ⟨#[38, 38]⟩, .string ⟨#[124, 124]⟩]) (.int .i64 1)).run Tryz.prog W = .ok (.string ⟨#[33, 61]⟩) W := fun W => by rfl
    by_cases hq : a0.data.toList.take 2 = ([33, 61] : List UInt8)
    ·have hp := pre_two a0 [33, 61] rfl
     rw [decide_eq_true hq] at hp
     have HQ := Lib.hid hq
     clear hq
     have HP := Lib.hid hp
     clear hp
     go_wp2_with (go_at_call 66; refine (strings_HasPrefix.calls _ _ true _ HP.out).mono ?_; rintro e w' ⟨rfl, ⟨nd, rfl⟩⟩)
     go_ret
     have h2 := H.out
     unfold lex_sign.f at h2
     rw [if_pos (sign_in a0 _ HQ.out (by decide))] at h2
     obtain rfl := Option.some.inj h2
     exact ⟨rfl, pw_below_drewN HB.out _⟩
    ·have hp := pre_two a0 [33, 61] rfl
     rw [decide_eq_false hq] at hp
     have HQ := Lib.hid hq
     clear hq
     have HP := Lib.hid hp
     clear hp
     go_wp2_with (go_at_call 66; refine (strings_HasPrefix.calls _ _ false _ HP.out).mono ?_; rintro e w' ⟨rfl, ⟨nd, rfl⟩⟩)
     go_roundw
     case rel => exact ⟨2, by omega, by omega, by first | rfl | go_num, Lib.hid (sign_next a0 1 _ rfl HN.out HQ.out), ⟨pw_below_drewN HB.out _⟩⟩
     case measure => simp [intOf]
   ·have hix : ∀ W : World, (Instr.index 134 (.agg #[.string ⟨#[61, 61]⟩, .string ⟨#[33, 61]⟩, .string ⟨#[60, 61]⟩, .string ⟨#[62, 61]⟩, .string ⟨#[43, 43]⟩, .string ⟨#[38, 38]⟩, .string ⟨#[124, 124]⟩]) (.int .i64 2)).run Tryz.prog W = .ok (.string ⟨#[60, 61]⟩) W := fun W => by rfl
    by_cases hq : a0.data.toList.take 2 = ([60, 61] : List UInt8)
    ·have hp := pre_two a0 [60, 61] rfl
     rw [decide_eq_true hq] at hp
     have HQ := Lib.hid hq
     clear hq
     have HP := Lib.hid hp
     clear hp
     go_wp2_with (go_at_call 66; refine (strings_HasPrefix.calls _ _ true _ HP.out).mono ?_; rintro e w' ⟨rfl, ⟨nd, rfl⟩⟩)
     go_ret
     have h2 := H.out
     unfold lex_sign.f at h2
     rw [if_pos (sign_in a0 _ HQ.out (by decide))] at h2
     obtain rfl := Option.some.inj h2
     exact ⟨rfl, pw_below_drewN HB.out _⟩
    ·have hp := pre_two a0 [60, 61] rfl
     rw [decide_eq_false hq] at hp
     have HQ := Lib.hid hq
     clear hq
     have HP := Lib.hid hp
     clear hp
     go_wp2_with (go_at_call 66; refine (strings_HasPrefix.calls _ _ false _ HP.out).mono ?_; rintro e w' ⟨rfl, ⟨nd, rfl⟩⟩)
     go_roundw
     case rel => exact ⟨3, by omega, by omega, by first | rfl | go_num, Lib.hid (sign_next a0 2 _ rfl HN.out HQ.out), ⟨pw_below_drewN HB.out _⟩⟩
     case measure => simp [intOf]
   ·have hix : ∀ W : World, (Instr.index 134 (.agg #[.string ⟨#[61, 61]⟩, .string ⟨#[33, 61]⟩, .string ⟨#[60, 61]⟩, .string ⟨#[62, 61]⟩, .string ⟨#[43, 43]⟩, .string ⟨#[38, 38]⟩, .string ⟨#[124, 124]⟩]) (.int .i64 3)).run Tryz.prog W = .ok (.string ⟨#[62, 61]⟩) W := fun W => by rfl
    by_cases hq : a0.data.toList.take 2 = ([62, 61] : List UInt8)
    ·have hp := pre_two a0 [62, 61] rfl
     rw [decide_eq_true hq] at hp
     have HQ := Lib.hid hq
     clear hq
     have HP := Lib.hid hp
     clear hp
     go_wp2_with (go_at_call 66; refine (strings_HasPrefix.calls _ _ true _ HP.out).mono ?_; rintro e w' ⟨rfl, ⟨nd, rfl⟩⟩)
     go_ret
     have h2 := H.out
     unfold lex_sign.f at h2
     rw [if_pos (sign_in a0 _ HQ.out (by decide))] at h2
     obtain rfl := Option.some.inj h2
     exact ⟨rfl, pw_below_drewN HB.out _⟩
    ·have hp := pre_two a0 [62, 61] rfl
     rw [decide_eq_false hq] at hp
     have HQ := Lib.hid hq
     clear hq
     have HP := Lib.hid hp
     clear hp
     go_wp2_with (go_at_call 66; refine (strings_HasPrefix.calls _ _ false _ HP.out).mono ?_; rintro e w' ⟨rfl, ⟨nd, rfl⟩⟩)
     go_roundw
     case rel => exact ⟨4, by omega, by omega, by first | rfl | go_num, Lib.hid (sign_next a0 3 _ rfl HN.out HQ.out), ⟨pw_below_drewN HB.out _⟩⟩
     case measure => simp [intOf]
   ·have hix : ∀ W : World, (Instr.index 134 (.agg #[.string ⟨#[61, 61]⟩, .string ⟨#[33, 61]⟩, .string ⟨#[60, 61]⟩, .string ⟨#[62, 61]⟩, .string ⟨#[43, 43]⟩, .string ⟨#[38, 38]⟩, .string ⟨#[124, 124]⟩]) (.int .i64 4)).run Tryz.prog W = .ok (.string ⟨#[43, 43]⟩) W := fun W => by rfl
    by_cases hq : a0.data.toList.take 2 = ([43, 43] : List UInt8)
    ·have hp := pre_two a0 [43, 43] rfl
     rw [decide_eq_true hq] at hp
     have HQ := Lib.hid hq
     clear hq
     have HP := Lib.hid hp
     clear hp
     go_wp2_with (go_at_call 66; refine (strings_HasPrefix.calls _ _ true _ HP.out).mono ?_; rintro e w' ⟨rfl, ⟨nd, rfl⟩⟩)
     go_ret
     have h2 := H.out
     unfold lex_sign.f at h2
     rw [if_pos (sign_in a0 _ HQ.out (by decide))] at h2
     obtain rfl := Option.some.inj h2
     exact ⟨rfl, pw_below_drewN HB.out _⟩
    ·have hp := pre_two a0 [43, 43] rfl
     rw [decide_eq_false hq] at hp
     have HQ := Lib.hid hq
     clear hq
     have HP := Lib.hid hp
     clear hp
     go_wp2_with (go_at_call 66; refine (strings_HasPrefix.calls _ _ false _ HP.out).mono ?_; rintro e w' ⟨rfl, ⟨nd, rfl⟩⟩)
     go_roundw
     case rel => exact ⟨5, by omega, by omega, by first | rfl | go_num, Lib.hid (sign_next a0 4 _ rfl HN.out HQ.out), ⟨pw_below_drewN HB.out _⟩⟩
     case measure => simp [intOf]
   ·have hix : ∀ W : World, (Instr.index 134 (.agg #[.string ⟨#[61, 61]⟩, .string ⟨#[33, 61]⟩, .string ⟨#[60, 61]⟩, .string ⟨#[62, 61]⟩, .string ⟨#[43, 43]⟩, .string ⟨#[38, 38]⟩, .string ⟨#[124, 124]⟩]) (.int .i64 5)).run Tryz.prog W = .ok (.string ⟨#[38, 38]⟩) W := fun W => by rfl
    by_cases hq : a0.data.toList.take 2 = ([38, 38] : List UInt8)
    ·have hp := pre_two a0 [38, 38] rfl
     rw [decide_eq_true hq] at hp
     have HQ := Lib.hid hq
     clear hq
     have HP := Lib.hid hp
     clear hp
     go_wp2_with (go_at_call 66; refine (strings_HasPrefix.calls _ _ true _ HP.out).mono ?_; rintro e w' ⟨rfl, ⟨nd, rfl⟩⟩)
     go_ret
     have h2 := H.out
     unfold lex_sign.f at h2
     rw [if_pos (sign_in a0 _ HQ.out (by decide))] at h2
     obtain rfl := Option.some.inj h2
     exact ⟨rfl, pw_below_drewN HB.out _⟩
    ·have hp := pre_two a0 [38, 38] rfl
     rw [decide_eq_false hq] at hp
     have HQ := Lib.hid hq
     clear hq
     have HP := Lib.hid hp
     clear hp
     go_wp2_with (go_at_call 66; refine (strings_HasPrefix.calls _ _ false _ HP.out).mono ?_; rintro e w' ⟨rfl, ⟨nd, rfl⟩⟩)
     go_roundw
     case rel => exact ⟨6, by omega, by omega, by first | rfl | go_num, Lib.hid (sign_next a0 5 _ rfl HN.out HQ.out), ⟨pw_below_drewN HB.out _⟩⟩
     case measure => simp [intOf]
   ·have hix : ∀ W : World, (Instr.index 134 (.agg #[.string ⟨#[61, 61]⟩, .string ⟨#[33, 61]⟩, .string ⟨#[60, 61]⟩, .string ⟨#[62, 61]⟩, .string ⟨#[43, 43]⟩, .string ⟨#[38, 38]⟩, .string ⟨#[124, 124]⟩]) (.int .i64 6)).run Tryz.prog W = .ok (.string ⟨#[124, 124]⟩) W := fun W => by rfl
    by_cases hq : a0.data.toList.take 2 = ([124, 124] : List UInt8)
    ·have hp := pre_two a0 [124, 124] rfl
     rw [decide_eq_true hq] at hp
     have HQ := Lib.hid hq
     clear hq
     have HP := Lib.hid hp
     clear hp
     go_wp2_with (go_at_call 66; refine (strings_HasPrefix.calls _ _ true _ HP.out).mono ?_; rintro e w' ⟨rfl, ⟨nd, rfl⟩⟩)
     go_ret
     have h2 := H.out
     unfold lex_sign.f at h2
     rw [if_pos (sign_in a0 _ HQ.out (by decide))] at h2
     obtain rfl := Option.some.inj h2
     exact ⟨rfl, pw_below_drewN HB.out _⟩
    ·have hp := pre_two a0 [124, 124] rfl
     rw [decide_eq_false hq] at hp
     have HQ := Lib.hid hq
     clear hq
     have HP := Lib.hid hp
     clear hp
     go_wp2_with (go_at_call 66; refine (strings_HasPrefix.calls _ _ false _ HP.out).mono ?_; rintro e w' ⟨rfl, ⟨nd, rfl⟩⟩)
     go_roundw
     case rel => exact ⟨7, by omega, by omega, by first | rfl | go_num, Lib.hid (sign_next a0 6 _ rfl HN.out HQ.out), ⟨pw_below_drewN HB.out _⟩⟩
     case measure => simp [intOf]
  ·have hk7 : k = 7 := by omega
   subst hk7
   clear hlt hk hk0
   have h2 := H.out
   unfold lex_sign.f at h2
   rw [if_neg (by rw [sign_any a0 7 HN.out (by omega)]; decide)] at h2
   by_cases hz : a0.size = 0
   ·rw [if_pos hz] at h2; cases h2
   ·rw [if_neg hz] at h2
    have hz0 : 0 < a0.size := by omega
    have hx3 : ∀ h : 0 < a0.size, ((a0[0]'h).toNat : Int) = bt a0 0 := bt_at a0 0
    have qi3 : (0 < (a0.size : Int)) = True := eq_true (by omega)
    have hz1 : (0 < a0.size) = True := eq_true hz0
    have hc : strings_IndexByte.f ⟨oneSigns.toArray⟩ (bt a0 0) = some (Lib.indexByte oneSigns ((bt a0 0).toNat.toUInt8)) := rfl
    have HC := Lib.hid hc
    clear hc hz hz0
    have h0 := bt_range a0 0
    by_cases hi : Lib.indexByte oneSigns ((bt a0 0).toNat.toUInt8) ≥ 0
    ·rw [if_pos hi] at h2
     obtain rfl := Option.some.inj h2
     have hi2 : decide (0 ≤ Lib.indexByte oneSigns ((bt a0 0).toNat.toUInt8)) = true := decide_eq_true hi
     clear hi h2
     go_wp2_with (go_at_call 94; refine (strings_IndexByte.calls _ (bt a0 0) _ _ HC.out).mono ?_; rintro e w' ⟨rfl, ⟨nd, rfl⟩⟩)
     go_ret
     exact ⟨rfl, pw_below_drewN HB.out _⟩
    ·rw [if_neg hi] at h2
     obtain rfl := Option.some.inj h2
     have hi2 : decide (0 ≤ Lib.indexByte oneSigns ((bt a0 0).toNat.toUInt8)) = false := decide_eq_false hi
     clear hi h2
     go_wp2_with (go_at_call 94; refine (strings_IndexByte.calls _ (bt a0 0) _ _ HC.out).mono ?_; rintro e w' ⟨rfl, ⟨nd, rfl⟩⟩)
     go_ret
     exact ⟨rfl, pw_below_drewN HB.out _⟩
end Go.Proofs.YtifachjefpcgcaaGreatDoor.P
