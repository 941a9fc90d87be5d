import Derived.Test.YtflmcglppeehgaaDoorTBase
import Derived.Test.YtflmcglppeehgaaDoorTPD
namespace Go.Proofs.YtflmcglppeehgaaDoor.Pure
open Go.RowKit Go.Proofs.YtflmcglppeehgaaDoor.P Go.Proofs.YtflmcglppeehgaaDoor.Base Go.Proofs.YtflmcglppeehgaaDoorW.PrintWords Go.Proofs.YtflmcglppeehgaaDoorW.PrintLast Go.Proofs.YtflmcglppeehgaaDoorW.PrintMore
set_option linter.unusedVariables false
set_option linter.unusedSimpArgs false
def isSp (c : UInt8) : Bool := decide (c.toNat = 32) || decide (c.toNat = 9) || decide (c.toNat = 10) || decide (c.toNat = 13)
def isSl (c : UInt8) : Bool := decide (c.toNat = 47)
def isNl (c : UInt8) : Bool := decide (c.toNat = 10)
def headSl : List UInt8 → Bool
  | [] => false
  | d :: _ => isSl d
def gapL : Bool → List UInt8 → Nat
  | _, [] => 0
  | true, c :: r => if isNl c = true then 1 + gapL false r else 1 + gapL true r
  | false, c :: r => if isSp c = true then 1 + gapL false r else if (isSl c && headSl r) = true then 1 + gapL true r else 0
theorem gapL_le : ∀ (l : List UInt8) (b : Bool), gapL b l ≤ l.length
  | [], b => by cases b <;> simp [gapL]
  | c :: r, true => by
    have := gapL_le r false; have := gapL_le r true
    unfold gapL; simp only [List.length_cons]; split <;> omega
  | c :: r, false => by
    have := gapL_le r false; have := gapL_le r true
    unfold gapL; simp only [List.length_cons]; split
    · omega
    · split <;> omega
theorem gapL_true_take (l : List UInt8) : gapL true l = (l.takeWhile (fun c => !isNl c)).length + gapL false (l.drop (l.takeWhile (fun c => !isNl c)).length) := by
  induction l with
  | nil => simp [gapL]
  | cons c r ih =>
    by_cases h : isNl c = true
    · have h2 : isSp c = true := by unfold isNl at h; unfold isSp; simp at h; simp [h]
      simp [gapL, h, h2]
    · simp only [Bool.not_eq_true] at h
      simp only [gapL, h]
      rw [List.takeWhile_cons, h]
      simp only [Bool.not_false, if_true, List.length_cons, List.drop_succ_cons, Bool.false_eq_true, if_false]
      omega
theorem gapL_cut : ∀ (l : List UInt8) (b : Bool) (m : Nat), gapL b l ≤ m → gapL b (l.take m) = gapL b l
  | [], b, m, h => by simp
  | c :: r, b, 0, h => by
    have : gapL b (c :: r) = 0 := by omega
    rw [this]; cases b <;> simp [gapL]
  | c :: r, true, m + 1, h => by
    rw [List.take_succ_cons]
    unfold gapL at h ⊢
    by_cases hc : isNl c = true
    · simp only [hc, if_true] at h ⊢
      rw [gapL_cut r false m (by omega)]
    · simp only [hc, if_false, Bool.false_eq_true] at h ⊢
      rw [gapL_cut r true m (by omega)]
  | c :: r, false, m + 1, h => by
    rw [List.take_succ_cons]
    unfold gapL at h ⊢
    by_cases hc : isSp c = true
    · simp only [hc, if_true] at h ⊢
      rw [gapL_cut r false m (by omega)]
    · simp only [hc, if_false, Bool.false_eq_true] at h ⊢
      cases r with
      | nil => simp
      | cons d r =>
        by_cases hd : (isSl c && headSl (d :: r)) = true
        · simp only [hd, if_true] at h ⊢
          have h1 : 1 ≤ gapL true (d :: r) := by unfold gapL; split <;> omega
          have h2 : headSl ((d :: r).take m) = headSl (d :: r) := by
            cases m with
            | zero => omega
            | succ m => simp [headSl]
          rw [h2, if_pos hd, gapL_cut (d :: r) true m (by omega)]
        · rw [if_neg hd]
          cases m with
          | zero => simp [headSl]
          | succ m => rw [List.take_succ_cons]; exact if_neg (by simpa [headSl] using hd)
theorem gapL_after : ∀ (l : List UInt8) (b : Bool), gapL false (l.drop (gapL b l)) = 0
  | [], b => by cases b <;> simp [gapL]
  | c :: r, true => by
    by_cases hc : isNl c = true
    · simp only [gapL, hc, if_true]; rw [Nat.add_comm, List.drop_succ_cons]; exact gapL_after r false
    · simp only [gapL, hc, if_false, Bool.false_eq_true]; rw [Nat.add_comm, List.drop_succ_cons]; exact gapL_after r true
  | c :: r, false => by
    by_cases hc : isSp c = true
    · simp only [gapL, hc, if_true]; rw [Nat.add_comm, List.drop_succ_cons]; exact gapL_after r false
    · by_cases hd : (isSl c && headSl r) = true
      · simp only [gapL, hc, if_false, Bool.false_eq_true, hd, if_true]; rw [Nat.add_comm, List.drop_succ_cons]; exact gapL_after r true
      · have : gapL false (c :: r) = 0 := by simp only [gapL, hc, if_false, Bool.false_eq_true, hd]
        rw [this]; exact this
theorem bt_head {s : ByteArray} {i : Nat} (hs : s.size ≤ 1048576) {c : UInt8} {r : List UInt8} (h : (L s).drop i = c :: r) :
    (if (wrap64 ((i : Int) + 1)) < (s.size : Int) then (decide (bt s (wrap64 ((i : Int) + 1)) = 47)) else false) = headSl r := by
  obtain ⟨hb, hi⟩ := bt_drop h
  rw [wrap_succ (by omega)]
  have hr := (drop_some h).2.2
  cases r with
  | nil =>
    have := drop_none hr; rw [L_length] at this
    rw [if_neg (by omega)]; rfl
  | cons d r =>
    obtain ⟨hb', hi'⟩ := bt_drop hr
    rw [if_pos (by omega), hb']
    unfold headSl isSl
    rcases Classical.em (d.toNat = 47) with h1 | h1 <;> simp [h1] <;> omega
theorem rgap_step (s : ByteArray) (hs : s.size ≤ 1048576) (i : Nat) (c : UInt8) (r : List UInt8) (h : (L s).drop i = c :: r) (k : Nat) :
    treadleref12_Gap.l0 (k + 1) s i = treadleref12_Gap.j1 k s i (c.toNat : Int) (isSp c) := by
  obtain ⟨hb, hi⟩ := bt_drop h
  rw [treadleref12_Gap.l0, if_pos (by omega), if_pos (by omega), hb]
  unfold isSp
  by_cases h1 : c.toNat = 32
  · rw [if_pos (by omega)]; simp [h1]
  by_cases h2 : c.toNat = 9
  · rw [if_neg (by omega), if_pos (by omega)]; simp [h2]
  by_cases h3 : c.toNat = 10
  · rw [if_neg (by omega), if_neg (by omega), if_pos (by omega)]; simp [h3]
  rw [if_neg (by omega), if_neg (by omega), if_neg (by omega)]
  congr 1
  by_cases h4 : c.toNat = 13
  · simp [h4]
  · have : ((c.toNat : Int) == 13) = false := by simp; omega
    rw [this]; simp [h1, h2, h3, h4]
theorem rgap_both (s : ByteArray) (hs : s.size ≤ 1048576) : ∀ (r : List UInt8) (i : Nat), (L s).drop i = r →
    Ev (fun k => treadleref12_Gap.l0 k s i) ((i + gapL false r : Nat) : Int) ∧ Ev (fun k => treadleref12_Gap.l1 k s i) ((i + gapL true r : Nat) : Int)
  | [], i, h => by
    have h1 := drop_none h
    rw [L_length] at h1
    have h0 : Ev (fun k => treadleref12_Gap.l0 k s i) ((i + gapL false [] : Nat) : Int) :=
      Ev.step (fun k => treadleref12_Gap.l0.eq_2 _ _ k) (Ev.ite_neg (by omega) (Ev.some_ (by simp [gapL])))
    refine ⟨h0, ?_⟩
    exact Ev.step (fun k => treadleref12_Gap.l1.eq_2 _ _ k) (Ev.ite_neg (by omega) (h0.eq (by simp [gapL])))
  | c :: r, i, h => by
    obtain ⟨hb, hi⟩ := bt_drop h
    obtain ⟨ih0, ih1⟩ := rgap_both s hs r (i + 1) (drop_some h).2.2
    have hl1 : Ev (fun k => treadleref12_Gap.l1 k s i) ((i + 1 + gapL true r : Nat) : Int) ∨ isNl c = true := by
      by_cases hc : isNl c = true
      · exact Or.inr hc
      left
      refine Ev.step (fun k => treadleref12_Gap.l1.eq_2 _ _ k) ?_
      refine Ev.ite_pos (by omega) (Ev.ite_pos (by omega) ?_)
      rw [hb]
      refine Ev.ite_neg (by unfold isNl at hc; simp at hc; omega) ?_
      rw [wrap_succ (by omega)]; exact ih1
    have h0 : Ev (fun k => treadleref12_Gap.l0 k s i) ((i + gapL false (c :: r) : Nat) : Int) := by
      refine Ev.step (fun k => rgap_step s hs i c r h k) ?_
      refine Ev.step (fun k => treadleref12_Gap.j1.eq_2 _ _ _ _ k) ?_
      by_cases hc : isSp c = true
      · refine Ev.ite_pos hc ?_
        rw [wrap_succ (by omega)]
        exact ih0.eq (by simp only [gapL, hc, if_true]; omega)
      refine Ev.ite_neg hc ?_
      have jn : ∀ b : Bool, b = false → (isSl c && headSl r) = false → Ev (fun k => treadleref12_Gap.j2 k s i b) ((i + gapL false (c :: r) : Nat) : Int) := fun b hb' hx => by
        refine Ev.step (fun k => treadleref12_Gap.j2.eq_2 _ _ _ k) ?_
        refine Ev.ite_neg (by simp [hb']) (Ev.some_ ?_)
        simp only [gapL, hc, hx, if_false, Bool.false_eq_true]; omega
      have jp : ∀ b : Bool, b = true → (isSl c && headSl r) = true → Ev (fun k => treadleref12_Gap.j2 k s i b) ((i + gapL false (c :: r) : Nat) : Int) := fun b hb' hx => by
        refine Ev.step (fun k => treadleref12_Gap.j2.eq_2 _ _ _ k) ?_
        refine Ev.ite_pos hb' ?_
        rcases hl1 with h1 | h1
        · refine h1.eq ?_
          simp only [gapL, hc, hx, if_false, Bool.false_eq_true, if_true]; omega
        · exfalso; apply hc; unfold isNl at h1; unfold isSp; simp at h1; simp [h1]
      have hh := bt_head hs h
      by_cases h47 : (c.toNat : Int) = 47
      · have hsl : isSl c = true := by unfold isSl; simp; omega
        refine Ev.ite_pos h47 ?_
        by_cases hn : (wrap64 ((i : Int) + 1)) < (s.size : Int)
        · rw [if_pos hn] at hh
          refine Ev.ite_pos hn (Ev.ite_pos (by rw [wrap_succ (by omega)]; omega) ?_)
          have he : ((bt s (wrap64 ((i : Int) + 1))) == 47) = headSl r := by rw [← hh]; rfl
          rw [he]
          cases hd : headSl r with
          | true => exact jp _ rfl (by simp [hsl, hd])
          | false => exact jn _ rfl (by simp [hd])
        · rw [if_neg hn] at hh
          refine Ev.ite_neg hn (jn _ rfl ?_)
          simp [← hh]
      · have hsl : isSl c = false := by unfold isSl; simp; omega
        exact Ev.ite_neg h47 (jn _ rfl (by simp [hsl]))
    refine ⟨h0, ?_⟩
    by_cases hc : isNl c = true
    · have h10 : (c.toNat : Int) = 10 := by unfold isNl at hc; simp at hc; omega
      have h2 : isSp c = true := by unfold isNl at hc; unfold isSp; simp at hc; simp [hc]
      refine Ev.step (fun k => treadleref12_Gap.l1.eq_2 _ _ k) ?_
      refine Ev.ite_pos (by omega) (Ev.ite_pos (by omega) ?_)
      rw [hb]
      refine Ev.ite_pos h10 (h0.eq ?_)
      simp only [gapL, hc, h2, if_true]
    · rcases hl1 with h1 | h1
      · exact h1.eq (by simp only [gapL, hc, if_false, Bool.false_eq_true]; omega)
      · exact absurd h1 hc
theorem rgap (s : ByteArray) (hs : s.size ≤ 1048576) (i : Nat) : Ev (fun k => treadleref12_Gap.f k s i) ((i + gapL false ((L s).drop i) : Nat) : Int) :=
  (rgap_both s hs _ i rfl).1
theorem idx_sp (c : UInt8) : strings_IndexByte.f (⟨#[32, 9, 10, 13]⟩ : ByteArray) (c.toNat : Int) = some (Lib.indexByte [32, 9, 10, 13] c) := by
  unfold strings_IndexByte.f stringslite_IndexByte.f
  have : ((c.toNat : Int)).toNat.toUInt8 = c := by simp
  rw [this]; rfl
theorem idx_sp_iff (c : UInt8) : (Lib.indexByte [32, 9, 10, 13] c ≥ 0) ↔ isSp c = true := by
  have : ∀ n : Fin 256, (decide (Lib.indexByte [32, 9, 10, 13] (UInt8.ofNat n.val) ≥ 0)) = isSp (UInt8.ofNat n.val) := by decide +kernel
  have h := this ⟨c.toNat, c.toNat_lt⟩
  simp only [UInt8.ofNat_toNat] at h
  rw [← h]; simp
theorem hasPrefix_sl (s : ByteArray) (hs : s.size ≤ 1048576) (i : Nat) (c : UInt8) (r : List UInt8) (h : (L s).drop i = c :: r) :
    strings_HasPrefix.f (s.extract (i : Int).toNat s.size) (⟨#[47, 47]⟩ : ByteArray) = some (isSl c && headSl r) := by
  obtain ⟨hb, hi⟩ := bt_drop h
  have e1 : L (s.extract i s.size) = c :: r := by rw [L_extract, h, List.take_of_length_le]; rw [← h, List.length_drop, L_length]; omega
  unfold strings_HasPrefix.f stringslite_HasPrefix.f
  have e0 : ((i : Int)).toNat = i := by omega
  rw [e0]
  have e2 : (s.extract i s.size).size = (c :: r).length := by rw [size_eq_L, e1]
  have e3 : ((⟨#[47, 47]⟩ : ByteArray).size : Int) = 2 := rfl
  rw [e2, e3]
  cases r with
  | nil => simp [headSl]
  | cons d r =>
    rw [if_pos (by simp only [List.length_cons]; omega), if_pos (by omega), if_pos (by simp only [List.length_cons]; omega)]
    simp only [Option.bind_some, Option.some.injEq]
    rw [toList_L, L_extract, e1, toList_L]
    show ((List.take 2 (c :: d :: r)) == [47, 47]) = (isSl c && isSl d)
    simp only [List.take_succ_cons, List.take_zero]
    unfold isSl
    rw [Bool.eq_iff_iff]
    simp [← UInt8.toNat_inj]
theorem run_gap (s : ByteArray) (hs : s.size ≤ 1048576) (i : Nat) (hi : i ≤ s.size) :
    lex_run.f s i 51 = some ((((L s).drop i).takeWhile (fun c => !isNl c)).length : Int) := by
  unfold lex_run.f
  rw [if_pos ⟨by omega, by omega, by omega⟩]
  have e0 : ((i : Int)).toNat = i := by omega
  have e1 : fnP 51 = some (fun c => decide (c ≠ 10)) := by unfold fnP; simp
  rw [e0, e1]
  simp only [Option.map_some, Option.some.injEq]
  congr 3
  funext c
  unfold isNl
  rcases Classical.em (c.toNat = 10) with h | h <;> simp [h] <;> omega
theorem lgap_loop (s : ByteArray) (hs : s.size ≤ 1048576) : ∀ (n : Nat) (i : Nat), s.size - i ≤ n → i ≤ s.size →
    Ev (fun k => lex_gap.l0 k s i) ((i + gapL false ((L s).drop i) : Nat) : Int) := by
  intro n
  induction n with
  | zero =>
    intro i h0 h1
    refine Ev.step (fun k => lex_gap.l0.eq_2 _ _ k) ?_
    refine Ev.ite_neg (by omega) (Ev.some_ ?_)
    rw [List.drop_eq_nil_of_le (by rw [L_length]; omega)]; simp [gapL]
  | succ n ih =>
    intro i h0 h1
    cases h : (L s).drop i with
    | nil =>
      have h2 := drop_none h
      rw [L_length] at h2
      refine Ev.step (fun k => lex_gap.l0.eq_2 _ _ k) ?_
      exact Ev.ite_neg (by omega) (Ev.some_ (by simp [gapL]))
    | cons c r =>
      obtain ⟨hb, hi⟩ := bt_drop h
      refine Ev.step (fun k => lex_gap.l0.eq_2 _ _ k) ?_
      refine Ev.ite_pos (by omega) (Ev.ite_pos (by omega) ?_)
      rw [hb]
      refine Ev.bind_now (idx_sp c) ?_
      by_cases hc : isSp c = true
      · refine Ev.ite_pos ((idx_sp_iff c).mpr hc) ?_
        rw [wrap_succ (by omega)]
        refine (ih (i + 1) (by omega) (by omega)).eq ?_
        rw [(drop_some h).2.2]; simp only [gapL, hc, if_true]; omega
      · refine Ev.ite_neg (fun x => hc ((idx_sp_iff c).mp x)) (Ev.ite_pos (by omega) ?_)
        refine Ev.bind_now (hasPrefix_sl s hs i c r h) ?_
        by_cases hd : (isSl c && headSl r) = true
        · refine Ev.ite_pos hd (Ev.bind_now (run_gap s hs i (by omega)) ?_)
          have hle : (((L s).drop i).takeWhile (fun c => !isNl c)).length ≤ s.size - i := by
            have := List.takeWhile_sublist (p := fun c => !isNl c) (l := (L s).drop i) |>.length_le
            rw [List.length_drop, L_length] at this; exact this
          have hpos : 1 ≤ (((L s).drop i).takeWhile (fun c => !isNl c)).length := by
            rw [h, List.takeWhile_cons]
            have : isNl c = false := by simp only [Bool.and_eq_true] at hd; unfold isSl at hd; unfold isNl; simp at hd; simp [hd.1]
            rw [this]; simp
          have e : wrap64 ((i : Int) + ((((L s).drop i).takeWhile (fun c => !isNl c)).length : Int)) = ((i + (((L s).drop i).takeWhile (fun c => !isNl c)).length : Nat) : Int) := by rw [wrap_id (by omega) (by omega)]; omega
          rw [e]
          refine (ih _ (by omega) (by omega)).eq ?_
          have g1 : gapL false (c :: r) = gapL true (c :: r) := by
            have : isNl c = false := by simp only [Bool.and_eq_true] at hd; unfold isSl at hd; unfold isNl; simp at hd; simp [hd.1]
            simp only [gapL, hc, hd, this, if_true, if_false, Bool.false_eq_true]
          rw [g1, gapL_true_take, ← h, List.drop_drop]
          omega
        · refine Ev.ite_neg hd (Ev.some_ ?_)
          simp only [gapL, hc, hd, if_false, Bool.false_eq_true]; rfl
theorem lgap (s : ByteArray) (hs : s.size ≤ 1048576) (i : Nat) (hi : i ≤ s.size) : Ev (fun k => lex_gap.f k s i) ((i + gapL false ((L s).drop i) : Nat) : Int) :=
  lgap_loop s hs _ i (Nat.le_refl _) hi
end Go.Proofs.YtflmcglppeehgaaDoor.Pure
