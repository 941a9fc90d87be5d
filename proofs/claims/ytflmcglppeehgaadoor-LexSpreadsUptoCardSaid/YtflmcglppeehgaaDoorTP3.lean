import Derived.Test.YtflmcglppeehgaaDoorTPD
namespace Go.Proofs.YtflmcglppeehgaaDoor.P
open Go.RowKit Go.Proofs.YtflmcglppeehgaaDoorW.PrintWords Go.Proofs.YtflmcglppeehgaaDoorW.PrintLast Go.Proofs.YtflmcglppeehgaaDoorW.PrintMore
attribute [local go_sem] max2_int min2_int max_two min_two max_three min_three max_four min_four
set_option linter.unusedVariables false
set_option linter.unusedSimpArgs false
set_option maxHeartbeats 1000000 in
set_option maxRecDepth 100000 in
theorem stringslite_IndexByte.calls (a0 : ByteArray) (a1 : Int) (r : Int) (w : World) (h : stringslite_IndexByte.f a0 a1 = some r) :
    Calls Tryd.prog 66 #[.string a0, .int .u8 a1] w fun e w' => e = .returned (.int .i64 r) ∧ Drawn0 w w' := by
  obtain rfl := Option.some.inj h
  go_enter Tryd.func66, Tryd.ntmps66
  go_wp2
  rw [run_callFunc_extern Tryd.func74 (by kernel_rfl) (by kernel_rfl) (by kernel_rfl) (e := Extern.BytealgIndexByte.indexByte) (by kernel_rfl), Lib.run_indexByteString]
  simp only [Result.andThen]
  rw [Oper.upon_value]
  go_wp2
  go_ret
  exact ⟨rfl, Drawn0.refl _⟩
set_option maxHeartbeats 8000000 in
set_option maxRecDepth 100000 in
theorem strings_IndexByte.calls (a0 : ByteArray) (a1 : Int) (r : Int) (w : World) (h : strings_IndexByte.f a0 a1 = some r) :
    Calls Tryd.prog 48 #[.string a0, .int .u8 a1] w fun e w' => e = .returned (.int .i64 r) ∧ Drawn0 w w' := by
  have H : ((stringslite_IndexByte.f a0 a1).bind fun t101 => (some t101)) = some r := h
  clear h
  replace H := Option.bind_eq_some_iff.mp H
  obtain ⟨t101, A30, H⟩ := H
  replace H : (some t101) = some r := H
  have A3 := Aside0.mk A30
  clear A30
  obtain rfl := Option.some.inj H
  go_enter Tryd.func48, Tryd.ntmps48
  go_wp2_with (first | ((with_reducible refine gate_callee (f := 66) rfl ?_); refine goesL_ (some 7) rfl rfl Tryd.func66 (by kernel_rfl) rfl #[.string a0, .int .u8 a1] rfl (by (try simp only [List.map_toArray, List.map_cons, List.map_nil]); first | done | rfl | (simp only [List.length_drop, List.length_take]; rfl)) ?_; (with_reducible refine (stringslite_IndexByte.calls a0 a1 t101 _ A3.out).mono ?_); rintro e w' ⟨rfl, ⟨nd, rfl⟩⟩; refine ⟨_, rfl, ?_⟩))
  go_ret
  exact ⟨by first | rfl | (simp; done) | (simp [*]; done), by repeat (first | exact Drawn0.refl _ | apply Drawn0.step)⟩
set_option maxHeartbeats 8000000 in
set_option maxRecDepth 100000 in
theorem stringslite_HasPrefix.calls (a0 : ByteArray) (a1 : ByteArray) (r : Bool) (w : World) (h : stringslite_HasPrefix.f a0 a1 = some r) :
    Calls Tryd.prog 67 #[.string a0, .string a1] w fun e w' => e = .returned (.bool r) ∧ Drawn0 w w' := by
  have H : (if (a0.size : Int) ≥ (a1.size : Int) then (if 0 ≤ (a1.size : Int) then (if (a1.size : Int) ≤ (a0.size : Int) then (some ((a0.extract 0 ((a1.size : Int) : Int).toNat).toList == a1.toList)) else (none)) else (none)) else (some false)) = some r := h
  clear h
  by_cases c3 : (a0.size : Int) ≥ (a1.size : Int)
  · rw [if_pos c3] at H
    have c3b0 : decide ((a1.size : Int) ≤ (a0.size : Int)) = true := decide_eq_true c3
    have c3b1 : decide (a1.size ≤ a0.size) = true := decide_eq_true (Int.ofNat_le.mp c3)
    clear c3
    by_cases c4 : 0 ≤ (a1.size : Int)
    · rw [if_pos c4] at H
      have c4b0 := eq_true c4
      have c4b1 : decide (0 ≤ (a1.size : Int)) = true := decide_eq_true c4
      clear c4
      by_cases c5 : (a1.size : Int) ≤ (a0.size : Int)
      · rw [if_pos c5] at H
        have c5b0 := eq_true c5
        have c5b1 : decide ((a1.size : Int) ≤ (a0.size : Int)) = true := decide_eq_true c5
        clear c5
        obtain rfl := Option.some.inj H
        go_enter Tryd.func67, Tryd.ntmps67
        go_wp2
        go_ret
        exact ⟨by first | rfl | (simp; done) | (simp [*]; done), by repeat (first | exact Drawn0.refl _ | apply Drawn0.step)⟩
      · rw [if_neg c5] at H
        exact absurd H (by simp)
    · rw [if_neg c4] at H
      exact absurd H (by simp)
  · rw [if_neg c3] at H
    have c3b0 : decide ((a1.size : Int) ≤ (a0.size : Int)) = false := decide_eq_false c3
    have c3b1 : decide (a1.size ≤ a0.size) = false := decide_eq_false (fun h => c3 (Int.ofNat_le.mpr h))
    clear c3
    obtain rfl := Option.some.inj H
    go_enter Tryd.func67, Tryd.ntmps67
    go_wp2
    go_ret
    exact ⟨by first | rfl | (simp; done) | (simp [*]; done), by repeat (first | exact Drawn0.refl _ | apply Drawn0.step)⟩
set_option maxHeartbeats 8000000 in
set_option maxRecDepth 100000 in
theorem strings_HasPrefix.calls (a0 : ByteArray) (a1 : ByteArray) (r : Bool) (w : World) (h : strings_HasPrefix.f a0 a1 = some r) :
    Calls Tryd.prog 49 #[.string a0, .string a1] w fun e w' => e = .returned (.bool r) ∧ Drawn0 w w' := by
  have H : ((stringslite_HasPrefix.f a0 a1).bind fun t102 => (some t102)) = some r := h
  clear h
  replace H := Option.bind_eq_some_iff.mp H
  obtain ⟨t102, A30, H⟩ := H
  replace H : (some t102) = some r := H
  have A3 := Aside0.mk A30
  clear A30
  obtain rfl := Option.some.inj H
  go_enter Tryd.func49, Tryd.ntmps49
  go_wp2_with (first | ((with_reducible refine gate_callee (f := 67) rfl ?_); refine goesL_ (some 7) rfl rfl Tryd.func67 (by kernel_rfl) rfl #[.string a0, .string a1] rfl (by (try simp only [List.map_toArray, List.map_cons, List.map_nil]); first | done | rfl | (simp only [List.length_drop, List.length_take]; rfl)) ?_; (with_reducible refine (stringslite_HasPrefix.calls a0 a1 t102 _ A3.out).mono ?_); rintro e w' ⟨rfl, ⟨nd, rfl⟩⟩; refine ⟨_, rfl, ?_⟩))
  go_ret
  exact ⟨by first | rfl | (simp; done) | (simp [*]; done), by repeat (first | exact Drawn0.refl _ | apply Drawn0.step)⟩
theorem gap1_calls (c : Int) (w : World) : Calls Tryd.prog 51 #[.int .u8 c] w fun e w' => e = .returned (.bool (decide (c ≠ 10))) ∧ w' = w := by
  by_cases h : c = 10
  · have h1 : (c == 10) = true := by simpa using h
    have h2 : (c != 10) = false := by simpa using h
    have h3 : decide (c ≠ 10) = false := by simpa using h
    rw [h3]
    clear h
    go_enter Tryd.func51, Tryd.ntmps51
    go_wp2
    go_ret
    exact ⟨by first | rfl | simp, rfl⟩
  · have h1 : (c == 10) = false := by rw [beq_eq_false_iff_ne]; exact h
    have h2 : (c != 10) = true := by rw [bne_iff_ne]; exact h
    have h3 : decide (c ≠ 10) = true := by simpa using h
    rw [h3]
    clear h
    go_enter Tryd.func51, Tryd.ntmps51
    go_wp2
    go_ret
    exact ⟨by first | rfl | simp, rfl⟩
theorem digit_calls' (c : Int) (w : World) : Calls Tryd.prog 54 #[.int .u8 c] w fun e w' => e = .returned (.bool (isDigit c)) ∧ w' = w := by
  unfold isDigit
  by_cases h : 48 ≤ c <;> by_cases h' : c ≤ 57
  all_goals
    first | have h1 : decide (48 ≤ c) = true := decide_eq_true h | have h1 : decide (48 ≤ c) = false := decide_eq_false h
    first | have h2 : decide (c ≤ 57) = true := decide_eq_true h' | have h2 : decide (c ≤ 57) = false := decide_eq_false h'
    rw [h1, h2]
    clear h h'
    go_enter Tryd.func54, Tryd.ntmps54
    go_wp2
    go_ret
    exact ⟨by first | rfl | simp, rfl⟩
theorem letter_calls' (c : Int) (w : World) : Calls Tryd.prog 52 #[.int .u8 c] w fun e w' => e = .returned (.bool (isLetter c)) ∧ w' = w := by
  unfold isLetter
  by_cases h : c = 95
  · have h0 : (c == 95) = true := by simpa using h
    have h1 : decide (c = 95) = true := decide_eq_true h
    rw [h1, Bool.true_or, Bool.true_or]
    clear h h1
    go_enter Tryd.func52, Tryd.ntmps52
    go_wp2
    go_ret
    exact ⟨by first | rfl | simp, rfl⟩
  · have h0 : (c == 95) = false := by simpa using h
    have h1 : decide (c = 95) = false := decide_eq_false h
    rw [h1, Bool.false_or]
    clear h h1
    by_cases a : 97 ≤ c <;> by_cases b : c ≤ 122 <;> by_cases d : 65 ≤ c <;> by_cases e : c ≤ 90
    all_goals
      first | have h1 : decide (97 ≤ c) = true := decide_eq_true a | have h1 : decide (97 ≤ c) = false := decide_eq_false a
      first | have h2 : decide (c ≤ 122) = true := decide_eq_true b | have h2 : decide (c ≤ 122) = false := decide_eq_false b
      first | have h3 : decide (65 ≤ c) = true := decide_eq_true d | have h3 : decide (65 ≤ c) = false := decide_eq_false d
      first | have h4 : decide (c ≤ 90) = true := decide_eq_true e | have h4 : decide (c ≤ 90) = false := decide_eq_false e
      rw [h1, h2, h3, h4]
      clear a b d e
      go_enter Tryd.func52, Tryd.ntmps52
      go_wp2
      go_ret
      exact ⟨by first | rfl | simp, rfl⟩
theorem token1_calls (c : Int) (w : World) : Calls Tryd.prog 53 #[.int .u8 c] w fun e w' => e = .returned (.bool (isLetter c || isDigit c)) ∧ w' = w := by
  have hl : ∃ b, isLetter c = b := ⟨_, rfl⟩
  obtain ⟨b, hl⟩ := hl
  have L := letter_calls' c
  rw [hl] at L ⊢
  cases b with
  | true =>
    rw [Bool.true_or]
    go_enter Tryd.func53, Tryd.ntmps53
    go_wp2_with (first | (go_at_call 52; refine (L _).mono ?_; rintro e w' ⟨rfl, rfl⟩) | (go_at_call 54; refine (digit_calls' _ _).mono ?_; rintro e w' ⟨rfl, rfl⟩))
    go_ret
    exact ⟨by first | rfl | simp, rfl⟩
  | false =>
    rw [Bool.false_or]
    go_enter Tryd.func53, Tryd.ntmps53
    go_wp2_with (first | (go_at_call 52; refine (L _).mono ?_; rintro e w' ⟨rfl, rfl⟩) | (go_at_call 54; refine (digit_calls' _ _).mono ?_; rintro e w' ⟨rfl, rfl⟩))
    go_ret
    exact ⟨by first | rfl | simp, rfl⟩
theorem tw_get (p : UInt8 → Bool) (l : List UInt8) (k : Nat) (h : k < (l.takeWhile p).length) : ∃ c, l[k]? = some c ∧ p c = true := by
  induction l generalizing k with
  | nil => simp at h
  | cons a l ih =>
    rw [List.takeWhile_cons] at h
    split at h
    · rename_i ha
      cases k with
      | zero => exact ⟨a, rfl, ha⟩
      | succ k => simpa using ih k (by simpa using h)
    · simp at h
theorem tw_le (p : UInt8 → Bool) (l : List UInt8) : (l.takeWhile p).length ≤ l.length := (List.takeWhile_sublist p).length_le
theorem tw_end (p : UInt8 → Bool) (l : List UInt8) : (l.takeWhile p).length = l.length ∨ ∃ c, l[(l.takeWhile p).length]? = some c ∧ p c = false := by
  induction l with
  | nil => left; rfl
  | cons a l ih =>
    rw [List.takeWhile_cons]
    split
    · rcases ih with h | ⟨c, h1, h2⟩
      · left; simp [h]
      · right; exact ⟨c, by simpa using h1, h2⟩
    · rename_i ha; right; exact ⟨a, rfl, by simpa using ha⟩
theorem bt_of_drop (s : ByteArray) (i k : Nat) (c : UInt8) (h : (s.data.toList.drop i)[k]? = some c) : bt s ((i : Int) + (k : Int)) = (c.toNat : Int) ∧ i + k < s.size := by
  obtain ⟨⟨l⟩⟩ := s
  rw [List.getElem?_drop] at h
  have hlt := (List.getElem?_eq_some_iff.1 h).1
  have hlt2 : i + k < (⟨⟨l⟩⟩ : ByteArray).size := hlt
  refine ⟨?_, hlt2⟩
  unfold bt
  have e : ((i : Int) + (k : Int)).toNat = i + k := by omega
  simp only [e]
  rw [dif_pos hlt2]
  have e2 := (List.getElem?_eq_some_iff.1 h).2
  have : (⟨⟨l⟩⟩ : ByteArray)[i + k]'hlt2 = l[i + k]'hlt := rfl
  rw [this, e2]
set_option maxHeartbeats 4000000 in
set_option maxRecDepth 100000 in
theorem run_gap1 (p : Int → Bool) (hp : ∀ (c : Int) (b : Bool) (w : World), p c = b → Calls Tryd.prog 51 #[.int .u8 c] w fun e w' => e = .returned (.bool b) ∧ w' = w) (s : ByteArray) (i : Nat) (hi : i ≤ s.size) (hs : s.size ≤ 1099511627776) (w : World) :
    Calls Tryd.prog 50 #[.string s, .int .i64 (i : Int), .func (.func 51) #[] #[]] w fun e w' => e = .returned (.int .i64 (((s.data.toList.drop i).takeWhile (fun c => p (c.toNat : Int))).length : Nat)) ∧ Drawn0 w w' := by
  have HP := Lib.hid hp
  clear hp
  have hlen : ((s.data.toList.drop i).takeWhile (fun c => p (c.toNat : Int))).length ≤ s.size - i := by
    refine Nat.le_trans (tw_le _ _) ?_
    rw [List.length_drop]
    have : s.data.toList.length = s.size := by obtain ⟨⟨l⟩⟩ := s; rfl
    omega
  go_enter Tryd.func50, Tryd.ntmps50
  go_wp2
  go_loopw [7] (fun v w' => ∃ k : Nat, k ≤ ((s.data.toList.drop i).takeWhile (fun c => p (c.toNat : Int))).length ∧ v = .int .i64 k ∧ Aside0 (Drawn0 w w')) (fun v _ => ((s.data.toList.drop i).takeWhile (fun c => p (c.toNat : Int))).length - (intOf v).toNat)
  case atStart => exact ⟨0, by omega, rfl, ⟨Drawn0.refl _⟩⟩
  case round =>
    obtain ⟨k, hk, rfl, HD⟩ := hrel
    by_cases hlt : k < ((s.data.toList.drop i).takeWhile (fun c => p (c.toNat : Int))).length
    · obtain ⟨c, h1, h2⟩ := tw_get _ _ _ hlt
      obtain ⟨h3, h4⟩ := bt_of_drop s i k c h1
      have hx := bt_at s ((i : Int) + (k : Int))
      have HC := HP.out (bt s ((i : Int) + (k : Int))) true
      have HC2 := Lib.hid (fun w => HC w (by rw [h3]; exact h2))
      clear HC h1 h2 h3
      have hl0 : (i : Int) + (k : Int) < (s.size : Int) := by omega
      go_wp2_with (go_at_call 51; refine (HC2.out _).mono ?_; rintro e w' ⟨rfl, rfl⟩)
      go_roundw
      case rel => exact ⟨k + 1, by omega, by go_num, ⟨by first | exact HD.out | exact HD.out.step _⟩⟩
      case measure => simp [intOf]; omega
    · have hk2 : k = ((s.data.toList.drop i).takeWhile (fun c => p (c.toNat : Int))).length := by omega
      have hend := tw_end (fun c => p (c.toNat : Int)) (s.data.toList.drop i)
      have HK := Lib.hid hk2
      rw [← hk2] at hend
      clear hlt hk hlen
      rcases hend with he | ⟨c, h1, h2⟩
      · rw [List.length_drop] at he
        have hsz : s.data.toList.length = s.size := by obtain ⟨⟨l⟩⟩ := s; rfl
        have hl0 : ¬ ((i : Int) + (k : Int) < (s.size : Int)) := by omega
        have hl1 : decide ((i : Int) + (k : Int) < (s.size : Int)) = false := decide_eq_false hl0
        have hl2 : decide (i + k < s.size) = false := decide_eq_false (by omega)
        have hl3 : (s.size : Int) ≤ (i : Int) + (k : Int) := by omega
        have hkb : i + k ≤ s.size := by omega
        clear hk2 he hsz hl0
        go_wp2
        go_ret
        exact ⟨by rw [← HK.out]; rfl, by first | exact HD.out | exact HD.out.step _⟩
      · obtain ⟨h3, h4⟩ := bt_of_drop s i k c h1
        have hx := bt_at s ((i : Int) + (k : Int))
        have HC := HP.out (bt s ((i : Int) + (k : Int))) false
        have HC2 := Lib.hid (fun w => HC w (by rw [h3]; exact h2))
        clear HC h1 h2 h3 hk2
        have hl0 : (i : Int) + (k : Int) < (s.size : Int) := by omega
        go_wp2_with (go_at_call 51; refine (HC2.out _).mono ?_; rintro e w' ⟨rfl, rfl⟩)
        go_ret
        exact ⟨by rw [← HK.out]; rfl, by first | exact HD.out | exact HD.out.step _⟩
set_option maxHeartbeats 4000000 in
set_option maxRecDepth 100000 in
theorem run_token1 (p : Int → Bool) (hp : ∀ (c : Int) (b : Bool) (w : World), p c = b → Calls Tryd.prog 53 #[.int .u8 c] w fun e w' => e = .returned (.bool b) ∧ w' = w) (s : ByteArray) (i : Nat) (hi : i ≤ s.size) (hs : s.size ≤ 1099511627776) (w : World) :
    Calls Tryd.prog 50 #[.string s, .int .i64 (i : Int), .func (.func 53) #[] #[]] w fun e w' => e = .returned (.int .i64 (((s.data.toList.drop i).takeWhile (fun c => p (c.toNat : Int))).length : Nat)) ∧ Drawn0 w w' := by
  have HP := Lib.hid hp
  clear hp
  have hlen : ((s.data.toList.drop i).takeWhile (fun c => p (c.toNat : Int))).length ≤ s.size - i := by
    refine Nat.le_trans (tw_le _ _) ?_
    rw [List.length_drop]
    have : s.data.toList.length = s.size := by obtain ⟨⟨l⟩⟩ := s; rfl
    omega
  go_enter Tryd.func50, Tryd.ntmps50
  go_wp2
  go_loopw [7] (fun v w' => ∃ k : Nat, k ≤ ((s.data.toList.drop i).takeWhile (fun c => p (c.toNat : Int))).length ∧ v = .int .i64 k ∧ Aside0 (Drawn0 w w')) (fun v _ => ((s.data.toList.drop i).takeWhile (fun c => p (c.toNat : Int))).length - (intOf v).toNat)
  case atStart => exact ⟨0, by omega, rfl, ⟨Drawn0.refl _⟩⟩
  case round =>
    obtain ⟨k, hk, rfl, HD⟩ := hrel
    by_cases hlt : k < ((s.data.toList.drop i).takeWhile (fun c => p (c.toNat : Int))).length
    · obtain ⟨c, h1, h2⟩ := tw_get _ _ _ hlt
      obtain ⟨h3, h4⟩ := bt_of_drop s i k c h1
      have hx := bt_at s ((i : Int) + (k : Int))
      have HC := HP.out (bt s ((i : Int) + (k : Int))) true
      have HC2 := Lib.hid (fun w => HC w (by rw [h3]; exact h2))
      clear HC h1 h2 h3
      have hl0 : (i : Int) + (k : Int) < (s.size : Int) := by omega
      go_wp2_with (go_at_call 53; refine (HC2.out _).mono ?_; rintro e w' ⟨rfl, rfl⟩)
      go_roundw
      case rel => exact ⟨k + 1, by omega, by go_num, ⟨by first | exact HD.out | exact HD.out.step _⟩⟩
      case measure => simp [intOf]; omega
    · have hk2 : k = ((s.data.toList.drop i).takeWhile (fun c => p (c.toNat : Int))).length := by omega
      have hend := tw_end (fun c => p (c.toNat : Int)) (s.data.toList.drop i)
      have HK := Lib.hid hk2
      rw [← hk2] at hend
      clear hlt hk hlen
      rcases hend with he | ⟨c, h1, h2⟩
      · rw [List.length_drop] at he
        have hsz : s.data.toList.length = s.size := by obtain ⟨⟨l⟩⟩ := s; rfl
        have hl0 : ¬ ((i : Int) + (k : Int) < (s.size : Int)) := by omega
        have hl1 : decide ((i : Int) + (k : Int) < (s.size : Int)) = false := decide_eq_false hl0
        have hl2 : decide (i + k < s.size) = false := decide_eq_false (by omega)
        have hl3 : (s.size : Int) ≤ (i : Int) + (k : Int) := by omega
        have hkb : i + k ≤ s.size := by omega
        clear hk2 he hsz hl0
        go_wp2
        go_ret
        exact ⟨by rw [← HK.out]; rfl, by first | exact HD.out | exact HD.out.step _⟩
      · obtain ⟨h3, h4⟩ := bt_of_drop s i k c h1
        have hx := bt_at s ((i : Int) + (k : Int))
        have HC := HP.out (bt s ((i : Int) + (k : Int))) false
        have HC2 := Lib.hid (fun w => HC w (by rw [h3]; exact h2))
        clear HC h1 h2 h3 hk2
        have hl0 : (i : Int) + (k : Int) < (s.size : Int) := by omega
        go_wp2_with (go_at_call 53; refine (HC2.out _).mono ?_; rintro e w' ⟨rfl, rfl⟩)
        go_ret
        exact ⟨by rw [← HK.out]; rfl, by first | exact HD.out | exact HD.out.step _⟩
set_option maxHeartbeats 4000000 in
set_option maxRecDepth 100000 in
theorem run_digit (p : Int → Bool) (hp : ∀ (c : Int) (b : Bool) (w : World), p c = b → Calls Tryd.prog 54 #[.int .u8 c] w fun e w' => e = .returned (.bool b) ∧ w' = w) (s : ByteArray) (i : Nat) (hi : i ≤ s.size) (hs : s.size ≤ 1099511627776) (w : World) :
    Calls Tryd.prog 50 #[.string s, .int .i64 (i : Int), .func (.func 54) #[] #[]] w fun e w' => e = .returned (.int .i64 (((s.data.toList.drop i).takeWhile (fun c => p (c.toNat : Int))).length : Nat)) ∧ Drawn0 w w' := by
  have HP := Lib.hid hp
  clear hp
  have hlen : ((s.data.toList.drop i).takeWhile (fun c => p (c.toNat : Int))).length ≤ s.size - i := by
    refine Nat.le_trans (tw_le _ _) ?_
    rw [List.length_drop]
    have : s.data.toList.length = s.size := by obtain ⟨⟨l⟩⟩ := s; rfl
    omega
  go_enter Tryd.func50, Tryd.ntmps50
  go_wp2
  go_loopw [7] (fun v w' => ∃ k : Nat, k ≤ ((s.data.toList.drop i).takeWhile (fun c => p (c.toNat : Int))).length ∧ v = .int .i64 k ∧ Aside0 (Drawn0 w w')) (fun v _ => ((s.data.toList.drop i).takeWhile (fun c => p (c.toNat : Int))).length - (intOf v).toNat)
  case atStart => exact ⟨0, by omega, rfl, ⟨Drawn0.refl _⟩⟩
  case round =>
    obtain ⟨k, hk, rfl, HD⟩ := hrel
    by_cases hlt : k < ((s.data.toList.drop i).takeWhile (fun c => p (c.toNat : Int))).length
    · obtain ⟨c, h1, h2⟩ := tw_get _ _ _ hlt
      obtain ⟨h3, h4⟩ := bt_of_drop s i k c h1
      have hx := bt_at s ((i : Int) + (k : Int))
      have HC := HP.out (bt s ((i : Int) + (k : Int))) true
      have HC2 := Lib.hid (fun w => HC w (by rw [h3]; exact h2))
      clear HC h1 h2 h3
      have hl0 : (i : Int) + (k : Int) < (s.size : Int) := by omega
      go_wp2_with (go_at_call 54; refine (HC2.out _).mono ?_; rintro e w' ⟨rfl, rfl⟩)
      go_roundw
      case rel => exact ⟨k + 1, by omega, by go_num, ⟨by first | exact HD.out | exact HD.out.step _⟩⟩
      case measure => simp [intOf]; omega
    · have hk2 : k = ((s.data.toList.drop i).takeWhile (fun c => p (c.toNat : Int))).length := by omega
      have hend := tw_end (fun c => p (c.toNat : Int)) (s.data.toList.drop i)
      have HK := Lib.hid hk2
      rw [← hk2] at hend
      clear hlt hk hlen
      rcases hend with he | ⟨c, h1, h2⟩
      · rw [List.length_drop] at he
        have hsz : s.data.toList.length = s.size := by obtain ⟨⟨l⟩⟩ := s; rfl
        have hl0 : ¬ ((i : Int) + (k : Int) < (s.size : Int)) := by omega
        have hl1 : decide ((i : Int) + (k : Int) < (s.size : Int)) = false := decide_eq_false hl0
        have hl2 : decide (i + k < s.size) = false := decide_eq_false (by omega)
        have hl3 : (s.size : Int) ≤ (i : Int) + (k : Int) := by omega
        have hkb : i + k ≤ s.size := by omega
        clear hk2 he hsz hl0
        go_wp2
        go_ret
        exact ⟨by rw [← HK.out]; rfl, by first | exact HD.out | exact HD.out.step _⟩
      · obtain ⟨h3, h4⟩ := bt_of_drop s i k c h1
        have hx := bt_at s ((i : Int) + (k : Int))
        have HC := HP.out (bt s ((i : Int) + (k : Int))) false
        have HC2 := Lib.hid (fun w => HC w (by rw [h3]; exact h2))
        clear HC h1 h2 h3 hk2
        have hl0 : (i : Int) + (k : Int) < (s.size : Int) := by omega
        go_wp2_with (go_at_call 54; refine (HC2.out _).mono ?_; rintro e w' ⟨rfl, rfl⟩)
        go_ret
        exact ⟨by rw [← HK.out]; rfl, by first | exact HD.out | exact HD.out.step _⟩
theorem lex_run.calls (a0 : ByteArray) (a1 : Int) (a2 : Nat) (r : Int) (w : World) (h : lex_run.f a0 a1 a2 = some r) :
    Calls Tryd.prog 50 #[.string a0, .int .i64 a1, .func (.func a2) #[] #[]] w fun e w' => e = .returned (.int .i64 r) ∧ Drawn0 w w' := by
  unfold lex_run.f at h
  split at h
  · rename_i hb
    obtain ⟨h0, h1, h2⟩ := hb
    obtain ⟨i, rfl⟩ : ∃ i : Nat, a1 = i := ⟨a1.toNat, by omega⟩
    rw [Option.map_eq_some_iff] at h
    obtain ⟨p, hp, rfl⟩ := h
    unfold fnP at hp
    split at hp
    · rename_i e; subst e; cases hp
      exact run_gap1 _ (fun c b w hb => by rw [← hb]; exact gap1_calls c w) a0 i (by omega) h2 w
    · split at hp
      · rename_i e; subst e; cases hp
        exact run_token1 _ (fun c b w hb => by rw [← hb]; exact token1_calls c w) a0 i (by omega) h2 w
      · split at hp
        · rename_i e; subst e; cases hp
          exact run_digit _ (fun c b w hb => by rw [← hb]; exact digit_calls' c w) a0 i (by omega) h2 w
        · cases hp
  · cases h
set_option maxHeartbeats 8000000 in
set_option maxRecDepth 100000 in
theorem lex_gap.calls (k : Nat) (a0 : ByteArray) (a1 : Int) (r : Int) (w : World) (h : lex_gap.f k a0 a1 = some r) :
    Calls Tryd.prog 34 #[.string a0, .int .i64 a1] w fun e w' => e = .returned (.int .i64 r) ∧ Drawn0 w w' := by
  have H : (lex_gap.l0 k a0 a1) = some r := h
  clear h
  have H' := Aside0.mk H
  clear H
  go_enter Tryd.func34, Tryd.ntmps34
  go_wp2
  go_loopg [1] k (fun kq v1 w' => ∃ (x1_1 : Int), v1 = .int .i64 x1_1 ∧ Aside0 (lex_gap.l0 kq a0 x1_1 = some r) ∧ Aside0 (kq ≤ k) ∧ Drawn0 w w')
  case atStart => exact ⟨(a1), (by first | rfl | (simp; done) | (simp [*]; done)), H', ⟨Nat.le_refl _⟩, by repeat (first | exact Drawn0.refl _ | apply Drawn0.step)⟩
  case round =>
    clear H'
    try clear p2
    obtain ⟨x1_1, rfl, HA, HK1, ⟨m1, rfl⟩⟩ := hrel
    cases gk with
    | zero => exact absurd HA.out (by simp [lex_gap.l0])
    | succ k1 =>
      have H := HA.out
      clear HA
      simp only [lex_gap.l0] at H
      by_cases c3 : x1_1 < (a0.size : Int)
      · rw [if_pos c3] at H
        have c3b0 : decide (x1_1 < (a0.size : Int)) = true := decide_eq_true c3
        clear c3
        by_cases c4 : 0 ≤ x1_1
        · rw [if_pos c4] at H
          have c4b0 : decide (0 ≤ x1_1) = true := decide_eq_true c4
          clear c4
          replace H := Option.bind_eq_some_iff.mp H
          obtain ⟨t103, A60, H⟩ := H
          replace H : (if t103 ≥ 0 then (lex_gap.l0 k1 a0 (wrap64 (x1_1 + 1))) else (if x1_1 ≤ (a0.size : Int) then ((strings_HasPrefix.f (a0.extract (x1_1 : Int).toNat a0.size) (⟨#[47, 47]⟩ : ByteArray)).bind fun t104 => (if t104 = true then ((lex_run.f a0 x1_1 51).bind fun t105 => (lex_gap.l0 k1 a0 (wrap64 (x1_1 + t105)))) else (some x1_1))) else (none))) = some r := H
          have A6 := Aside0.mk A60
          clear A60
          by_cases c7 : t103 ≥ 0
          · rw [if_pos c7] at H
            have c7b0 : decide (0 ≤ t103) = true := decide_eq_true c7
            clear c7
            have H' := Aside0.mk H
            clear H
            have p5 : 0 ≤ (x1_1 : Int) := of_decide_eq_true (by first | (with_reducible assumption) | assumption)
            have q5 : x1_1 < (a0.size : Int) := of_decide_eq_true (by first | (with_reducible assumption) | assumption)
            have hx5 := bt_at a0 x1_1
            replace p5 := eq_true p5
            replace q5 := eq_true q5
            go_wp2_with (first | ((with_reducible refine gate_callee (f := 48) rfl ?_); refine goesL_ (some 14) rfl rfl Tryd.func48 (by kernel_rfl) rfl #[.string (⟨#[32, 9, 10, 13]⟩ : ByteArray), .int .u8 (bt a0 x1_1)] rfl (by (try simp only [List.map_toArray, List.map_cons, List.map_nil]); first | done | rfl | (simp only [List.length_drop, List.length_take]; rfl)) ?_; (with_reducible refine (strings_IndexByte.calls (⟨#[32, 9, 10, 13]⟩ : ByteArray) (bt a0 x1_1) t103 _ A6.out).mono ?_); rintro e w' ⟨rfl, ⟨nd, rfl⟩⟩; refine ⟨_, rfl, ?_⟩))
            go_roundg k1
            case measure => have := HK1.out; omega
            case rel => exact ⟨(wrap64 (x1_1 + 1)), (by first | rfl | (simp; done) | (simp [*]; done)), H', ⟨by have := HK1.out; omega⟩, by repeat (first | exact Drawn0.refl _ | apply Drawn0.step)⟩
          · rw [if_neg c7] at H
            have c7b0 : decide (0 ≤ t103) = false := decide_eq_false c7
            clear c7
            have c8b0 := eq_true (of_decide_eq_true (by first | (with_reducible assumption) | assumption) : 0 ≤ x1_1)
            by_cases c9 : x1_1 ≤ (a0.size : Int)
            · rw [if_pos c9] at H
              have c9b0 := eq_true c9
              have c9b1 : decide (x1_1 ≤ (a0.size : Int)) = true := decide_eq_true c9
              clear c9
              replace H := Option.bind_eq_some_iff.mp H
              obtain ⟨t104, A100, H⟩ := H
              replace H : (if t104 = true then ((lex_run.f a0 x1_1 51).bind fun t105 => (lex_gap.l0 k1 a0 (wrap64 (x1_1 + t105)))) else (some x1_1)) = some r := H
              have A10 := Aside0.mk A100
              clear A100
              by_cases c11 : t104 = true
              · subst c11
                have H1 : ((lex_run.f a0 x1_1 51).bind fun t105 => (lex_gap.l0 k1 a0 (wrap64 (x1_1 + t105)))) = some r := by rw [if_pos rfl] at H; exact H
                clear H
                have H := H1
                clear H1
                replace H := Option.bind_eq_some_iff.mp H
                obtain ⟨t105, A120, H⟩ := H
                replace H : (lex_gap.l0 k1 a0 (wrap64 (x1_1 + t105))) = some r := H
                have A12 := Aside0.mk A120
                clear A120
                have H' := Aside0.mk H
                clear H
                have p5 : 0 ≤ (x1_1 : Int) := of_decide_eq_true (by first | (with_reducible assumption) | assumption)
                have q5 : x1_1 < (a0.size : Int) := of_decide_eq_true (by first | (with_reducible assumption) | assumption)
                have hx5 := bt_at a0 x1_1
                replace p5 := eq_true p5
                replace q5 := eq_true q5
                go_wp2_with (first | ((with_reducible refine gate_callee (f := 48) rfl ?_); refine goesL_ (some 14) rfl rfl Tryd.func48 (by kernel_rfl) rfl #[.string (⟨#[32, 9, 10, 13]⟩ : ByteArray), .int .u8 (bt a0 x1_1)] rfl (by (try simp only [List.map_toArray, List.map_cons, List.map_nil]); first | done | rfl | (simp only [List.length_drop, List.length_take]; rfl)) ?_; (with_reducible refine (strings_IndexByte.calls (⟨#[32, 9, 10, 13]⟩ : ByteArray) (bt a0 x1_1) t103 _ A6.out).mono ?_); rintro e w' ⟨rfl, ⟨nd, rfl⟩⟩; refine ⟨_, rfl, ?_⟩) | ((with_reducible refine gate_callee (f := 49) rfl ?_); refine goesL_ (some 22) rfl rfl Tryd.func49 (by kernel_rfl) rfl #[.string (a0.extract (x1_1 : Int).toNat a0.size), .string (⟨#[47, 47]⟩ : ByteArray)] rfl (by (try simp only [List.map_toArray, List.map_cons, List.map_nil]); first | done | rfl | (simp only [List.length_drop, List.length_take]; rfl)) ?_; (with_reducible refine (strings_HasPrefix.calls (a0.extract (x1_1 : Int).toNat a0.size) (⟨#[47, 47]⟩ : ByteArray) true _ A10.out).mono ?_); rintro e w' ⟨rfl, ⟨nd, rfl⟩⟩; refine ⟨_, rfl, ?_⟩) | ((with_reducible refine gate_callee (f := 50) rfl ?_); refine goesL_ (some 26) rfl rfl Tryd.func50 (by kernel_rfl) rfl #[.string a0, .int .i64 x1_1, .func (.func 51) #[] #[]] rfl (by (try simp only [List.map_toArray, List.map_cons, List.map_nil]); first | done | rfl | (simp only [List.length_drop, List.length_take]; rfl)) ?_; (with_reducible refine (lex_run.calls a0 x1_1 51 t105 _ A12.out).mono ?_); rintro e w' ⟨rfl, ⟨nd, rfl⟩⟩; refine ⟨_, rfl, ?_⟩))
                go_roundg k1
                case measure => have := HK1.out; omega
                case rel => exact ⟨(wrap64 (x1_1 + t105)), (by first | rfl | (simp; done) | (simp [*]; done)), H', ⟨by have := HK1.out; omega⟩, by repeat (first | exact Drawn0.refl _ | apply Drawn0.step)⟩
              · replace c11 := Bool.eq_false_iff.mpr c11
                subst c11
                have H1 : (some x1_1) = some r := by rw [if_neg (show ¬ (false = true) by decide)] at H; exact H
                clear H
                have H := H1
                clear H1
                obtain rfl := Option.some.inj H
                have p5 : 0 ≤ (x1_1 : Int) := of_decide_eq_true (by first | (with_reducible assumption) | assumption)
                have q5 : x1_1 < (a0.size : Int) := of_decide_eq_true (by first | (with_reducible assumption) | assumption)
                have hx5 := bt_at a0 x1_1
                replace p5 := eq_true p5
                replace q5 := eq_true q5
                go_wp2_with (first | ((with_reducible refine gate_callee (f := 48) rfl ?_); refine goesL_ (some 14) rfl rfl Tryd.func48 (by kernel_rfl) rfl #[.string (⟨#[32, 9, 10, 13]⟩ : ByteArray), .int .u8 (bt a0 x1_1)] rfl (by (try simp only [List.map_toArray, List.map_cons, List.map_nil]); first | done | rfl | (simp only [List.length_drop, List.length_take]; rfl)) ?_; (with_reducible refine (strings_IndexByte.calls (⟨#[32, 9, 10, 13]⟩ : ByteArray) (bt a0 x1_1) t103 _ A6.out).mono ?_); rintro e w' ⟨rfl, ⟨nd, rfl⟩⟩; refine ⟨_, rfl, ?_⟩) | ((with_reducible refine gate_callee (f := 49) rfl ?_); refine goesL_ (some 22) rfl rfl Tryd.func49 (by kernel_rfl) rfl #[.string (a0.extract (x1_1 : Int).toNat a0.size), .string (⟨#[47, 47]⟩ : ByteArray)] rfl (by (try simp only [List.map_toArray, List.map_cons, List.map_nil]); first | done | rfl | (simp only [List.length_drop, List.length_take]; rfl)) ?_; (with_reducible refine (strings_HasPrefix.calls (a0.extract (x1_1 : Int).toNat a0.size) (⟨#[47, 47]⟩ : ByteArray) false _ A10.out).mono ?_); rintro e w' ⟨rfl, ⟨nd, rfl⟩⟩; refine ⟨_, rfl, ?_⟩))
                go_ret
                exact ⟨by first | rfl | (simp; done) | (simp [*]; done), by repeat (first | exact Drawn0.refl _ | apply Drawn0.step)⟩
            · rw [if_neg c9] at H
              exact absurd H (by simp)
        · rw [if_neg c4] at H
          exact absurd H (by simp)
      · rw [if_neg c3] at H
        have c3b0 : decide (x1_1 < (a0.size : Int)) = false := decide_eq_false c3
        clear c3
        obtain rfl := Option.some.inj H
        go_wp2
        go_ret
        exact ⟨by first | rfl | (simp; done) | (simp [*]; done), by repeat (first | exact Drawn0.refl _ | apply Drawn0.step)⟩
end Go.Proofs.YtflmcglppeehgaaDoor.P
