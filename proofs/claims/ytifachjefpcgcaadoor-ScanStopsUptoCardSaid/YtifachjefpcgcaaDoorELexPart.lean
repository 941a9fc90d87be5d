import Derived.Laws.BytesArg
import Derived.Lib.ParseIntB
import Derived.Lib.ItoaNum
import Derived.Test.YtifachjefpcgcaaDoorEBase
import Derived.Test.YtifachjefpcgcaaDoorEPD
namespace Go.Proofs.YtifachjefpcgcaaDoor.Pure
open Go.RowKit Go.Proofs.YtifachjefpcgcaaDoor.P Go.Proofs.YtifachjefpcgcaaDoor.Base Go.Proofs.YtifachjefpcgcaaDoorW.PrintWords Go.Proofs.YtifachjefpcgcaaDoorW.PrintLast Go.Proofs.YtifachjefpcgcaaDoorW.PrintMore
set_option linter.unusedVariables false
set_option linter.unusedSimpArgs false
def isSp (c : UInt8) : Bool := decide (c.toNat = 32) || decide (c.toNat = 9) || decide (c.toNat = 10) || decide (c.toNat = 13)
def isSl (c : UInt8) : Bool := decide (c.toNat = 47)
def isNl (c : UInt8) : Bool := decide (c.toNat = 10)
def headSl : List UInt8 → Bool
  | [] => false
  | d :: _ => isSl d
def gapL : Bool → List UInt8 → Nat
  | _, [] => 0
  | true, c :: r => if isNl c = true then 1 + gapL false r else 1 + gapL true r
  | false, c :: r => if isSp c = true then 1 + gapL false r else if (isSl c && headSl r) = true then 1 + gapL true r else 0
theorem gapL_le : ∀ (l : List UInt8) (b : Bool), gapL b l ≤ l.length
  | [], b => by cases b <;> simp [gapL]
  | c :: r, true => by
    have := gapL_le r false; have := gapL_le r true
    unfold gapL; simp only [List.length_cons]; split <;> omega
  | c :: r, false => by
    have := gapL_le r false; have := gapL_le r true
    unfold gapL; simp only [List.length_cons]; split
    · omega
    · split <;> omega
theorem gapL_true_take (l : List UInt8) : gapL true l = (l.takeWhile (fun c => !isNl c)).length + gapL false (l.drop (l.takeWhile (fun c => !isNl c)).length) := by
  induction l with
  | nil => simp [gapL]
  | cons c r ih =>
    by_cases h : isNl c = true
    · have h2 : isSp c = true := by unfold isNl at h; unfold isSp; simp at h; simp [h]
      simp [gapL, h, h2]
    · simp only [Bool.not_eq_true] at h
      simp only [gapL, h]
      rw [List.takeWhile_cons, h]
      simp only [Bool.not_false, if_true, List.length_cons, List.drop_succ_cons, Bool.false_eq_true, if_false]
      omega
theorem gapL_after : ∀ (l : List UInt8) (b : Bool), gapL false (l.drop (gapL b l)) = 0
  | [], b => by cases b <;> simp [gapL]
  | c :: r, true => by
    by_cases hc : isNl c = true
    · simp only [gapL, hc, if_true]; rw [Nat.add_comm, List.drop_succ_cons]; exact gapL_after r false
    · simp only [gapL, hc, if_false, Bool.false_eq_true]; rw [Nat.add_comm, List.drop_succ_cons]; exact gapL_after r true
  | c :: r, false => by
    by_cases hc : isSp c = true
    · simp only [gapL, hc, if_true]; rw [Nat.add_comm, List.drop_succ_cons]; exact gapL_after r false
    · by_cases hd : (isSl c && headSl r) = true
      · simp only [gapL, hc, if_false, Bool.false_eq_true, hd, if_true]; rw [Nat.add_comm, List.drop_succ_cons]; exact gapL_after r true
      · have : gapL false (c :: r) = 0 := by simp only [gapL, hc, if_false, Bool.false_eq_true, hd]
        rw [this]; exact this
theorem bt_head {s : ByteArray} {i : Nat} (hs : s.size ≤ 1048576) {c : UInt8} {r : List UInt8} (h : (L s).drop i = c :: r) :
    (if (wrap64 ((i : Int) + 1)) < (s.size : Int) then (decide (bt s (wrap64 ((i : Int) + 1)) = 47)) else false) = headSl r := by
  obtain ⟨hb, hi⟩ := bt_drop h
  rw [wrap_succ (by omega)]
  have hr := (drop_some h).2.2
  cases r with
  | nil =>
    have := drop_none hr; rw [L_length] at this
    rw [if_neg (by omega)]; rfl
  | cons d r =>
    obtain ⟨hb', hi'⟩ := bt_drop hr
    rw [if_pos (by omega), hb']
    unfold headSl isSl
    rcases Classical.em (d.toNat = 47) with h1 | h1 <;> simp [h1] <;> omega
theorem rgap_step (s : ByteArray) (hs : s.size ≤ 1048576) (i : Nat) (c : UInt8) (r : List UInt8) (h : (L s).drop i = c :: r) (k : Nat) :
    treadleref12_Gap.l0 (k + 1) s i = treadleref12_Gap.j1 k s i (c.toNat : Int) (isSp c) := by
  obtain ⟨hb, hi⟩ := bt_drop h
  rw [treadleref12_Gap.l0, if_pos (by omega), if_pos (by omega), hb]
  unfold isSp
  by_cases h1 : c.toNat = 32
  · rw [if_pos (by omega)]; simp [h1]
  by_cases h2 : c.toNat = 9
  · rw [if_neg (by omega), if_pos (by omega)]; simp [h2]
  by_cases h3 : c.toNat = 10
  · rw [if_neg (by omega), if_neg (by omega), if_pos (by omega)]; simp [h3]
  rw [if_neg (by omega), if_neg (by omega), if_neg (by omega)]
  congr 1
  by_cases h4 : c.toNat = 13
  · simp [h4]
  · have : ((c.toNat : Int) == 13) = false := by simp; omega
    rw [this]; simp [h1, h2, h3, h4]
theorem rgap_both (s : ByteArray) (hs : s.size ≤ 1048576) : ∀ (r : List UInt8) (i : Nat), (L s).drop i = r →
    Ev (fun k => treadleref12_Gap.l0 k s i) ((i + gapL false r : Nat) : Int) ∧ Ev (fun k => treadleref12_Gap.l1 k s i) ((i + gapL true r : Nat) : Int)
  | [], i, h => by
    have h1 := drop_none h
    rw [L_length] at h1
    have h0 : Ev (fun k => treadleref12_Gap.l0 k s i) ((i + gapL false [] : Nat) : Int) :=
      Ev.step (fun k => treadleref12_Gap.l0.eq_2 _ _ k) (Ev.ite_neg (by omega) (Ev.some_ (by simp [gapL])))
    refine ⟨h0, ?_⟩
    exact Ev.step (fun k => treadleref12_Gap.l1.eq_2 _ _ k) (Ev.ite_neg (by omega) (h0.eq (by simp [gapL])))
  | c :: r, i, h => by
    obtain ⟨hb, hi⟩ := bt_drop h
    obtain ⟨ih0, ih1⟩ := rgap_both s hs r (i + 1) (drop_some h).2.2
    have hl1 : Ev (fun k => treadleref12_Gap.l1 k s i) ((i + 1 + gapL true r : Nat) : Int) ∨ isNl c = true := by
      by_cases hc : isNl c = true
      · exact Or.inr hc
      left
      refine Ev.step (fun k => treadleref12_Gap.l1.eq_2 _ _ k) ?_
      refine Ev.ite_pos (by omega) (Ev.ite_pos (by omega) ?_)
      rw [hb]
      refine Ev.ite_neg (by unfold isNl at hc; simp at hc; omega) ?_
      rw [wrap_succ (by omega)]; exact ih1
    have h0 : Ev (fun k => treadleref12_Gap.l0 k s i) ((i + gapL false (c :: r) : Nat) : Int) := by
      refine Ev.step (fun k => rgap_step s hs i c r h k) ?_
      refine Ev.step (fun k => treadleref12_Gap.j1.eq_2 _ _ _ _ k) ?_
      by_cases hc : isSp c = true
      · refine Ev.ite_pos hc ?_
        rw [wrap_succ (by omega)]
        exact ih0.eq (by simp only [gapL, hc, if_true]; omega)
      refine Ev.ite_neg hc ?_
      have jn : ∀ b : Bool, b = false → (isSl c && headSl r) = false → Ev (fun k => treadleref12_Gap.j2 k s i b) ((i + gapL false (c :: r) : Nat) : Int) := fun b hb' hx => by
        refine Ev.step (fun k => treadleref12_Gap.j2.eq_2 _ _ _ k) ?_
        refine Ev.ite_neg (by simp [hb']) (Ev.some_ ?_)
        simp only [gapL, hc, hx, if_false, Bool.false_eq_true]; omega
      have jp : ∀ b : Bool, b = true → (isSl c && headSl r) = true → Ev (fun k => treadleref12_Gap.j2 k s i b) ((i + gapL false (c :: r) : Nat) : Int) := fun b hb' hx => by
        refine Ev.step (fun k => treadleref12_Gap.j2.eq_2 _ _ _ k) ?_
        refine Ev.ite_pos hb' ?_
        rcases hl1 with h1 | h1
        · refine h1.eq ?_
          simp only [gapL, hc, hx, if_false, Bool.false_eq_true, if_true]; omega
        · exfalso; apply hc; unfold isNl at h1; unfold isSp; simp at h1; simp [h1]
      have hh := bt_head hs h
      by_cases h47 : (c.toNat : Int) = 47
      · have hsl : isSl c = true := by unfold isSl; simp; omega
        refine Ev.ite_pos h47 ?_
        by_cases hn : (wrap64 ((i : Int) + 1)) < (s.size : Int)
        · rw [if_pos hn] at hh
          refine Ev.ite_pos hn (Ev.ite_pos (by rw [wrap_succ (by omega)]; omega) ?_)
          have he : ((bt s (wrap64 ((i : Int) + 1))) == 47) = headSl r := by rw [← hh]; rfl
          rw [he]
          cases hd : headSl r with
          | true => exact jp _ rfl (by simp [hsl, hd])
          | false => exact jn _ rfl (by simp [hd])
        · rw [if_neg hn] at hh
          refine Ev.ite_neg hn (jn _ rfl ?_)
          simp [← hh]
      · have hsl : isSl c = false := by unfold isSl; simp; omega
        exact Ev.ite_neg h47 (jn _ rfl (by simp [hsl]))
    refine ⟨h0, ?_⟩
    by_cases hc : isNl c = true
    · have h10 : (c.toNat : Int) = 10 := by unfold isNl at hc; simp at hc; omega
      have h2 : isSp c = true := by unfold isNl at hc; unfold isSp; simp at hc; simp [hc]
      refine Ev.step (fun k => treadleref12_Gap.l1.eq_2 _ _ k) ?_
      refine Ev.ite_pos (by omega) (Ev.ite_pos (by omega) ?_)
      rw [hb]
      refine Ev.ite_pos h10 (h0.eq ?_)
      simp only [gapL, hc, h2, if_true]
    · rcases hl1 with h1 | h1
      · exact h1.eq (by simp only [gapL, hc, if_false, Bool.false_eq_true]; omega)
      · exact absurd h1 hc
theorem rgap (s : ByteArray) (hs : s.size ≤ 1048576) (i : Nat) : Ev (fun k => treadleref12_Gap.f k s i) ((i + gapL false ((L s).drop i) : Nat) : Int) :=
  (rgap_both s hs _ i rfl).1
theorem idx_sp (c : UInt8) : strings_IndexByte.f (⟨#[32, 9, 10, 13]⟩ : ByteArray) (c.toNat : Int) = some (Lib.indexByte [32, 9, 10, 13] c) := by
  unfold strings_IndexByte.f stringslite_IndexByte.f
  have : ((c.toNat : Int)).toNat.toUInt8 = c := by simp
  rw [this]; rfl
theorem idx_sp_iff (c : UInt8) : (Lib.indexByte [32, 9, 10, 13] c ≥ 0) ↔ isSp c = true := by
  have : ∀ n : Fin 256, (decide (Lib.indexByte [32, 9, 10, 13] (UInt8.ofNat n.val) ≥ 0)) = isSp (UInt8.ofNat n.val) := by decide +kernel
  have h := this ⟨c.toNat, c.toNat_lt⟩
  simp only [UInt8.ofNat_toNat] at h
  rw [← h]; simp
theorem hasPrefix_sl (s : ByteArray) (hs : s.size ≤ 1048576) (i : Nat) (c : UInt8) (r : List UInt8) (h : (L s).drop i = c :: r) :
    strings_HasPrefix.f (s.extract (i : Int).toNat s.size) (⟨#[47, 47]⟩ : ByteArray) = some (isSl c && headSl r) := by
  obtain ⟨hb, hi⟩ := bt_drop h
  have e1 : L (s.extract i s.size) = c :: r := by rw [L_extract, h, List.take_of_length_le]; rw [← h, List.length_drop, L_length]; omega
  unfold strings_HasPrefix.f stringslite_HasPrefix.f
  have e0 : ((i : Int)).toNat = i := by omega
  rw [e0]
  have e2 : (s.extract i s.size).size = (c :: r).length := by rw [size_eq_L, e1]
  have e3 : ((⟨#[47, 47]⟩ : ByteArray).size : Int) = 2 := rfl
  rw [e2, e3]
  cases r with
  | nil => simp [headSl]
  | cons d r =>
    rw [if_pos (by simp only [List.length_cons]; omega), if_pos (by omega), if_pos (by simp only [List.length_cons]; omega)]
    simp only [Option.bind_some, Option.some.injEq]
    rw [toList_L, L_extract, e1, toList_L]
    show ((List.take 2 (c :: d :: r)) == [47, 47]) = (isSl c && isSl d)
    simp only [List.take_succ_cons, List.take_zero]
    unfold isSl
    rw [Bool.eq_iff_iff]
    simp [← UInt8.toNat_inj]
theorem run_gap (s : ByteArray) (hs : s.size ≤ 1048576) (i : Nat) (hi : i ≤ s.size) :
    lex_run.f s i 56 = some ((((L s).drop i).takeWhile (fun c => !isNl c)).length : Int) := by
  unfold lex_run.f
  rw [if_pos ⟨by omega, by omega, by omega⟩]
  have e0 : ((i : Int)).toNat = i := by omega
  have e1 : fnP 56 = some (fun c => decide (c ≠ 10)) := by unfold fnP; simp
  rw [e0, e1]
  simp only [Option.map_some, Option.some.injEq]
  congr 3
  funext c
  unfold isNl
  rcases Classical.em (c.toNat = 10) with h | h <;> simp [h] <;> omega
theorem lgap_loop (s : ByteArray) (hs : s.size ≤ 1048576) : ∀ (n : Nat) (i : Nat), s.size - i ≤ n → i ≤ s.size →
    Ev (fun k => lex_gap.l0 k s i) ((i + gapL false ((L s).drop i) : Nat) : Int) := by
  intro n
  induction n with
  | zero =>
    intro i h0 h1
    refine Ev.step (fun k => lex_gap.l0.eq_2 _ _ k) ?_
    refine Ev.ite_neg (by omega) (Ev.some_ ?_)
    rw [List.drop_eq_nil_of_le (by rw [L_length]; omega)]; simp [gapL]
  | succ n ih =>
    intro i h0 h1
    cases h : (L s).drop i with
    | nil =>
      have h2 := drop_none h
      rw [L_length] at h2
      refine Ev.step (fun k => lex_gap.l0.eq_2 _ _ k) ?_
      exact Ev.ite_neg (by omega) (Ev.some_ (by simp [gapL]))
    | cons c r =>
      obtain ⟨hb, hi⟩ := bt_drop h
      refine Ev.step (fun k => lex_gap.l0.eq_2 _ _ k) ?_
      refine Ev.ite_pos (by omega) (Ev.ite_pos (by omega) ?_)
      rw [hb]
      refine Ev.bind_now (idx_sp c) ?_
      by_cases hc : isSp c = true
      · refine Ev.ite_pos ((idx_sp_iff c).mpr hc) ?_
        rw [wrap_succ (by omega)]
        refine (ih (i + 1) (by omega) (by omega)).eq ?_
        rw [(drop_some h).2.2]; simp only [gapL, hc, if_true]; omega
      · refine Ev.ite_neg (fun x => hc ((idx_sp_iff c).mp x)) (Ev.ite_pos (by omega) ?_)
        refine Ev.bind_now (hasPrefix_sl s hs i c r h) ?_
        by_cases hd : (isSl c && headSl r) = true
        · refine Ev.ite_pos hd (Ev.bind_now (run_gap s hs i (by omega)) ?_)
          have hle : (((L s).drop i).takeWhile (fun c => !isNl c)).length ≤ s.size - i := by
            have := List.takeWhile_sublist (p := fun c => !isNl c) (l := (L s).drop i) |>.length_le
            rw [List.length_drop, L_length] at this; exact this
          have hpos : 1 ≤ (((L s).drop i).takeWhile (fun c => !isNl c)).length := by
            rw [h, List.takeWhile_cons]
            have : isNl c = false := by simp only [Bool.and_eq_true] at hd; unfold isSl at hd; unfold isNl; simp at hd; simp [hd.1]
            rw [this]; simp
          have e : wrap64 ((i : Int) + ((((L s).drop i).takeWhile (fun c => !isNl c)).length : Int)) = ((i + (((L s).drop i).takeWhile (fun c => !isNl c)).length : Nat) : Int) := by rw [wrap_id (by omega) (by omega)]; omega
          rw [e]
          refine (ih _ (by omega) (by omega)).eq ?_
          have g1 : gapL false (c :: r) = gapL true (c :: r) := by
            have : isNl c = false := by simp only [Bool.and_eq_true] at hd; unfold isSl at hd; unfold isNl; simp at hd; simp [hd.1]
            simp only [gapL, hc, hd, this, if_true, if_false, Bool.false_eq_true]
          rw [g1, gapL_true_take, ← h, List.drop_drop]
          omega
        · refine Ev.ite_neg hd (Ev.some_ ?_)
          simp only [gapL, hc, hd, if_false, Bool.false_eq_true]; rfl
theorem lgap (s : ByteArray) (hs : s.size ≤ 1048576) (i : Nat) (hi : i ≤ s.size) : Ev (fun k => lex_gap.f k s i) ((i + gapL false ((L s).drop i) : Nat) : Int) :=
  lgap_loop s hs _ i (Nat.le_refl _) hi
theorem byte_all {p : UInt8 → Bool} (h : (List.range 256).all (fun n => p (UInt8.ofNat n)) = true) (c : UInt8) : p c = true := by
  have := (List.all_eq_true.mp h) c.toNat (List.mem_range.mpr c.toNat_lt)
  simpa using this
def nib (c : UInt8) : Option Nat := if 48 ≤ c.toNat ∧ c.toNat ≤ 57 then some (c.toNat - 48) else if 97 ≤ c.toNat ∧ c.toNat ≤ 102 then some (c.toNat - 87) else none
theorem nib_lt {c : UInt8} {x : Nat} (h : nib c = some x) : x < 16 := by
  unfold nib at h
  split at h
  · injection h; omega
  · split at h
    · injection h; omega
    · cases h
def pc : List UInt8 → Option (UInt8 × Nat)
  | [] => none
  | c :: r =>
    if c.toNat = 92 then
      match r with
      | [] => none
      | d :: r' =>
        if d.toNat = 110 then some (10, 2) else if d.toNat = 116 then some (9, 2) else if d.toNat = 34 ∨ d.toNat = 92 then some (d, 2)
        else if d.toNat = 120 then
          match r' with
          | a :: b :: _ => (match nib a, nib b with
            | some x, some y => some (UInt8.ofNat (16 * x + y), 4)
            | _, _ => none)
          | _ => none
        else none
    else if c.toNat < 32 ∨ 126 < c.toNat ∨ c.toNat = 34 then none else some (c, 1)
def pcI (l : List UInt8) : Int × Int := match pc l with
  | none => (0, 0)
  | some (b, n) => ((b.toNat : Int), (n : Int))
theorem lnib (c : UInt8) : lex_nibble.f (c.toNat : Int) = some (match nib c with | some x => (x : Int) | none => -1) := by
  have := byte_all (p := fun c => decide (lex_nibble.f (c.toNat : Int) = some (match nib c with | some x => (x : Int) | none => -1))) (by decide +kernel) c
  simpa using this
theorem rhalf (c : UInt8) : treadleref12_half.f (c.toNat : Int) = some (match nib c with | some x => (x : Int) | none => 16) := by
  have := byte_all (p := fun c => decide (treadleref12_half.f (c.toNat : Int) = some (match nib c with | some x => (x : Int) | none => 16))) (by decide +kernel) c
  simpa using this
theorem bits_l : ∀ a b : Fin 16, Go.bits .or .i64 (wrap64 ((a.val : Int) * 16)) (b.val : Int) % 256 = ((UInt8.ofNat (16 * a.val + b.val)).toNat : Int) := by decide +kernel
theorem bits_r : ∀ a b : Fin 16, Go.bits .or .u8 (((a.val : Int) * 16) % 256) (b.val : Int) = ((UInt8.ofNat (16 * a.val + b.val)).toNat : Int) := by decide +kernel
theorem lpiece0 (s : ByteArray) (k : Nat) : lex_piece.f (k + 3) s = some (pcI (L s)) := by
  cases h : L s with
  | nil => simp [lex_piece.f, toList_L, h, lex_piece.j0, pcI, pc]
  | cons c r =>
    obtain ⟨hb0, hi0⟩ := bt_drop (i := 0) (s := s) (c := c) (r := r) (by simpa using h)
    have hsz : s.size = r.length + 1 := by rw [size_eq_L, h]; rfl
    have hb0 : bt s 0 = (c.toNat : Int) := hb0
    unfold lex_piece.f
    rw [if_neg (by rw [toList_L, h]; simp), if_pos (by omega), hb0]
    have jt : lex_piece.j0 (k + 3) s true = some (0, 0) := by simp [lex_piece.j0]
    by_cases h1 : c.toNat < 32
    · rw [if_pos (by omega), jt]; simp only [pcI, pc]; rw [if_neg (by omega), if_pos (Or.inl h1)]
    by_cases h2 : 126 < c.toNat
    · rw [if_neg (by omega), if_pos (by omega), jt]; simp only [pcI, pc]; rw [if_neg (by omega), if_pos (Or.inr (Or.inl h2))]
    rw [if_neg (by omega), if_neg (by omega)]
    by_cases h3 : c.toNat = 34
    · have : ((c.toNat : Int) == 34) = true := by simp; omega
      rw [this, jt]; simp only [pcI, pc]; rw [if_neg (by omega), if_pos (Or.inr (Or.inr h3))]
    have e3 : ((c.toNat : Int) == 34) = false := by simp; omega
    rw [e3, lex_piece.j0, if_neg (by simp), if_pos (by omega), hb0]
    by_cases h4 : c.toNat = 92
    rotate_left
    · rw [if_neg (by omega)]; simp only [pcI, pc]; rw [if_neg h4, if_neg (by omega)]; rfl
    rw [if_pos (by omega)]
    cases r with
    | nil => rw [if_pos (by simp at hsz; omega)]; simp [pcI, pc, h4]
    | cons d r =>
      obtain ⟨hb1, hi1⟩ := bt_drop (i := 1) (s := s) (c := d) (r := r) (by simp [h])
      have hb1 : bt s 1 = (d.toNat : Int) := hb1
      simp only [List.length_cons] at hsz
      rw [if_neg (by omega), if_pos (by omega), hb1]
      simp only [pcI, pc]
      rw [if_pos h4]
      by_cases d1 : d.toNat = 110
      · rw [if_pos (by omega), if_pos d1]; rfl
      rw [if_neg (by omega), if_neg d1]
      by_cases d2 : d.toNat = 116
      · rw [if_pos (by omega), if_pos d2]; rfl
      rw [if_neg (by omega), if_neg d2]
      by_cases d3 : d.toNat = 34 ∨ d.toNat = 92
      · rw [if_pos d3]
        have j1t : lex_piece.j1 (k + 2) s (d.toNat : Int) true = some ((d.toNat : Int), 2) := by rw [lex_piece.j1, if_pos rfl, if_pos (by omega), hb1]
        by_cases d4 : d.toNat = 34
        · have : ((d.toNat : Int) == 34) = true := by simp; omega
          rw [if_pos (by omega), this, j1t]; rfl
        · have : ((d.toNat : Int) == 92) = true := by simp; omega
          rw [if_neg (by omega), this, j1t]; rfl
      · rw [if_neg d3]
        have : ((d.toNat : Int) == 92) = false := by simp; omega
        rw [if_neg (by omega), this, lex_piece.j1, if_neg (by simp)]
        have jf : lex_piece.j2 (k + 1) s false = some (0, 0) := by simp [lex_piece.j2]
        by_cases d5 : d.toNat = 120
        · rw [if_pos (by omega), if_pos d5]
          match r, h, hsz with
          | [], h, hsz => rw [if_neg (by simp at hsz; omega), jf]
          | [a], h, hsz => rw [if_neg (by simp at hsz; omega), jf]
          | a :: b :: r, h, hsz =>
            obtain ⟨hb2, hi2⟩ := bt_drop (i := 2) (s := s) (c := a) (r := b :: r) (by simp [h])
            obtain ⟨hb3, hi3⟩ := bt_drop (i := 3) (s := s) (c := b) (r := r) (by simp [h])
            have hb2 : bt s 2 = (a.toNat : Int) := hb2
            have hb3 : bt s 3 = (b.toNat : Int) := hb3
            rw [if_pos (by omega), if_pos (by omega), hb2, lnib]
            simp only [Option.bind_some]
            cases hx : nib a with
            | none => simp only; rw [if_neg (by omega), jf]
            | some x =>
              simp only
              rw [if_pos (by omega), if_pos (by omega), hb3, lnib]
              simp only [Option.bind_some]
              cases hy : nib b with
              | none =>
                have : decide ((-1 : Int) ≥ 0) = false := by decide
                simp only; rw [this, jf]
              | some y =>
                have : decide ((y : Int) ≥ 0) = true := by simp
                simp only
                rw [this, lex_piece.j2, if_pos rfl, if_pos (by omega), hb2, lnib, hx]
                simp only [Option.bind_some]
                rw [if_pos (by omega), hb3, lnib, hy]
                simp only [Option.bind_some]
                have := bits_l ⟨x, nib_lt hx⟩ ⟨y, nib_lt hy⟩
                rw [this]; rfl
        · rw [if_neg (by omega), if_neg d5]
theorem lpiece (s : ByteArray) : Ev (fun k => lex_piece.f k s) (pcI (L s)) := ⟨3, fun k hk => by
  obtain ⟨j, rfl⟩ : ∃ j, k = j + 3 := ⟨k - 3, by omega⟩
  exact lpiece0 s j⟩
theorem rpiece0 (s : ByteArray) (hs : s.size ≤ 1048576) (i k : Nat) (hi : i ≤ s.size) : treadleref12_piece.f (k + 3) s i = some (pcI ((L s).drop i)) := by
  have w1 : wrap64 ((i : Int) + 1) = ((i + 1 : Nat) : Int) := wrap_succ (by omega)
  have w2 : wrap64 ((i : Int) + 2) = ((i + 2 : Nat) : Int) := by rw [wrap_id (by omega) (by omega)]; omega
  have w3 : wrap64 ((i : Int) + 3) = ((i + 3 : Nat) : Int) := by rw [wrap_id (by omega) (by omega)]; omega
  cases h : (L s).drop i with
  | nil =>
    have := drop_none h; rw [L_length] at this
    unfold treadleref12_piece.f
    rw [if_pos (by omega)]; rfl
  | cons c r =>
    obtain ⟨hb0, hi0⟩ := bt_drop h
    have hr := (drop_some h).2.2
    have hsz : s.size = i + r.length + 1 := by
      have := congrArg List.length h
      rw [List.length_drop, L_length, List.length_cons] at this; omega
    unfold treadleref12_piece.f
    rw [if_neg (by omega), if_pos (by omega), if_pos (by omega), hb0, w1]
    by_cases h4 : c.toNat = 92
    rotate_left
    · rw [if_neg (by omega)]
      simp only [pcI, pc]; rw [if_neg h4]
      by_cases h1 : c.toNat < 32
      · rw [if_pos (by omega), if_pos (Or.inl h1)]
      by_cases h2 : 126 < c.toNat
      · rw [if_neg (by omega), if_pos (by omega), if_pos (Or.inr (Or.inl h2))]
      by_cases h3 : c.toNat = 34
      · rw [if_neg (by omega), if_neg (by omega), if_pos (by omega), if_pos (Or.inr (Or.inr h3))]
      rw [if_neg (by omega), if_neg (by omega), if_neg (by omega), if_neg (by omega)]; rfl
    rw [if_pos (by omega)]
    cases r with
    | nil => rw [if_pos (by simp at hsz; omega)]; simp [pcI, pc, h4]
    | cons d r =>
      obtain ⟨hb1, hi1⟩ := bt_drop hr
      have hr2 := (drop_some hr).2.2
      simp only [List.length_cons] at hsz
      rw [if_neg (by omega), if_pos (by omega), if_pos (by omega), hb1]
      simp only [pcI, pc]
      rw [if_pos h4]
      by_cases d1 : d.toNat = 110
      · rw [if_pos (by omega), if_pos d1]; rfl
      rw [if_neg (by omega), if_neg d1]
      by_cases d2 : d.toNat = 116
      · rw [if_pos (by omega), if_pos d2]; rfl
      rw [if_neg (by omega), if_neg d2]
      by_cases d3 : d.toNat = 34 ∨ d.toNat = 92
      · rw [if_pos d3]
        have j1t : treadleref12_piece.j0 (k + 3) s i (d.toNat : Int) true = some ((d.toNat : Int), 2) := by
          rw [treadleref12_piece.j0, if_pos rfl, w1, if_pos (by omega), if_pos (by omega), hb1]
        by_cases d4 : d.toNat = 34
        · have : ((d.toNat : Int) == 34) = true := by simp; omega
          rw [if_pos (by omega), this, j1t]; rfl
        · have : ((d.toNat : Int) == 92) = true := by simp; omega
          rw [if_neg (by omega), this, j1t]; rfl
      · rw [if_neg d3]
        have : ((d.toNat : Int) == 92) = false := by simp; omega
        rw [if_neg (by omega), this, treadleref12_piece.j0, if_neg (by simp)]
        have jf : treadleref12_piece.j1 (k + 2) s i false = some (0, 0) := by simp [treadleref12_piece.j1]
        by_cases d5 : d.toNat = 120
        · rw [if_pos (by omega), if_pos d5, w3]
          match r, hr2, hsz with
          | [], hr2, hsz => rw [if_neg (by simp at hsz; omega), jf]
          | [a], hr2, hsz => rw [if_neg (by simp at hsz; omega), jf]
          | a :: b :: r, hr2, hsz =>
            obtain ⟨hb2, hi2⟩ := bt_drop hr2
            obtain ⟨hb3, hi3⟩ := bt_drop (drop_some hr2).2.2
            rw [w2, if_pos (by omega), if_pos (by omega), if_pos (by omega), hb2, rhalf]
            simp only [Option.bind_some]
            cases hx : nib a with
            | none => simp only; rw [if_neg (by omega), jf]
            | some x =>
              have hx16 := nib_lt hx
              simp only
              rw [if_pos (by omega), if_pos (by omega), hb3, rhalf]
              simp only [Option.bind_some]
              cases hy : nib b with
              | none =>
                have : decide ((16 : Int) < 16) = false := by decide
                simp only; rw [this, jf]
              | some y =>
                have hy16 := nib_lt hy
                have : decide ((y : Int) < 16) = true := by simp; omega
                simp only
                rw [this, treadleref12_piece.j1, if_pos rfl, w2, w3, if_pos (by omega), if_pos (by omega), hb2, rhalf, hx]
                simp only [Option.bind_some]
                rw [if_pos (by omega), if_pos (by omega), hb3, rhalf, hy]
                simp only [Option.bind_some]
                have := bits_r ⟨x, nib_lt hx⟩ ⟨y, nib_lt hy⟩
                rw [this]; rfl
        · rw [if_neg (by omega), if_neg d5]
theorem rpiece (s : ByteArray) (hs : s.size ≤ 1048576) (i : Nat) (hi : i ≤ s.size) : Ev (fun k => treadleref12_piece.f k s i) (pcI ((L s).drop i)) := ⟨3, fun k hk => by
  obtain ⟨j, rfl⟩ : ∃ j, k = j + 3 := ⟨k - 3, by omega⟩
  exact rpiece0 s hs i j hi⟩
def ql : Nat → List UInt8 → Option (List UInt8 × Nat)
  | 0, _ => none
  | f + 1, [] => none
  | f + 1, c :: r => if c.toNat = 34 then some ([], 1) else
      match pc (c :: r) with
      | none => none
      | some (b, n) => match ql f ((c :: r).drop n) with
        | none => none
        | some (t, m) => some (b :: t, n + m)
theorem pc_pos {l : List UInt8} {b : UInt8} {n : Nat} (h : pc l = some (b, n)) : 1 ≤ n ∧ n ≤ l.length := by
  unfold pc at h
  split at h
  · cases h
  · split at h
    · split at h
      · cases h
      · split at h
        · injection h with h; injection h with h1 h2; simp; omega
        · split at h
          · injection h with h; injection h with h1 h2; simp; omega
          · split at h
            · injection h with h; injection h with h1 h2; simp; omega
            · split at h
              · split at h
                · split at h
                  · injection h with h; injection h with h1 h2; simp; omega
                  · cases h
                · cases h
              · cases h
    · split at h
      · cases h
      · injection h with h; injection h with h1 h2; simp; omega
theorem ql_fuel : ∀ (f g : Nat) (l : List UInt8), l.length < f → l.length < g → ql f l = ql g l
  | 0, _, l, h, _ => by omega
  | f + 1, 0, l, _, h => by omega
  | f + 1, g + 1, [], _, _ => rfl
  | f + 1, g + 1, c :: r, h1, h2 => by
    unfold ql
    split
    · rfl
    · cases hp : pc (c :: r) with
      | none => rfl
      | some q =>
        obtain ⟨b, n⟩ := q
        obtain ⟨p1, p2⟩ := pc_pos hp
        simp only
        rw [ql_fuel f g _ (by rw [List.length_drop]; simp only [List.length_cons] at *; omega) (by rw [List.length_drop]; simp only [List.length_cons] at *; omega)]
def nums (A : List UInt8) : List Int := A.map (fun b => (b.toNat : Int))
theorem strOfNums_nums (A : List UInt8) : strOfNums (nums A) = mkB A := by
  apply L_inj
  rw [L_mkB]
  show (strOfNums (nums A)).data.toList = A
  rw [strOfNums_data]
  unfold nums
  rw [List.map_map]
  conv => rhs; rw [← List.map_id A]
  apply List.map_congr_left
  intro c _
  simp
def qI (e : Int) (A : List UInt8) (i : Nat) : Option (List UInt8 × Nat) → ByteArray × Int
  | none => (⟨#[]⟩, e)
  | some (t, m) => if A.length + t.length ≤ 4096 then (mkB (A ++ t), ((i + m : Nat) : Int)) else (⟨#[]⟩, e)
theorem quo_arith {z i n f q : Nat} (h1 : z - i = q) (h2 : n ≤ q) (h3 : 1 ≤ n) (h4 : z - i < f + 1) (h5 : i ≤ z) : z - (i + n) < f ∧ i + n ≤ z := by omega
theorem len_snoc {A : List UInt8} {b : UInt8} {m : Nat} (h1 : A.length < m) : (A ++ [b]).length ≤ m := by rw [List.length_append]; exact h1
theorem drop_len {s : ByteArray} {i f : Nat} (h : s.size - i < f) : ((L s).drop i).length < f := by rw [List.length_drop, L_length]; exact h
theorem lquo_loop (s : ByteArray) (hs : s.size ≤ 1048576) : ∀ (f : Nat) (A : List UInt8) (i : Nat), A.length ≤ 4096 → ((L s).drop i).length < f → i ≤ s.size →
    Ev (fun k => lex_quoted.l0 k s (nums A) i) (qI 0 A i (ql f ((L s).drop i)))
  | 0, A, i, hA, hl, hi => by omega
  | f + 1, A, i, hA, hl, hi => by
    have hz : s.size - i < f + 1 := by rw [List.length_drop, L_length] at hl; exact hl
    clear hl
    refine Ev.step (fun k => lex_quoted.l0.eq_2 _ _ _ k) ?_
    cases h : (L s).drop i with
    | nil =>
      have h1 := drop_none h; rw [L_length] at h1
      refine Ev.ite_neg (by omega) ?_
      refine Ev.step (fun k => lex_quoted.j2.eq_2 _ _ _ _ k) ?_
      exact Ev.ite_neg (by simp) (Ev.ite_pos (by omega) (Ev.some_ (by simp [ql, qI])))
    | cons c r =>
      obtain ⟨hb, hi'⟩ := bt_drop h
      refine Ev.ite_pos (by omega) (Ev.ite_pos (by omega) ?_)
      refine Ev.step (fun k => lex_quoted.j2.eq_2 _ _ _ _ k) ?_
      rw [hb]
      by_cases hq : c.toNat = 34
      · have e : ((c.toNat : Int) != 34) = false := by rw [bne_eq_false_iff_eq]; omega
        refine Ev.ite_neg (by simp [e]) (Ev.ite_neg (by omega) (Ev.some_ ?_))
        rw [strOfNums_nums, wrap_succ (by omega)]
        simp only [ql, hq, if_true, qI, List.append_nil, List.length_nil]
        rw [if_pos (by omega)]
      · have e : ((c.toNat : Int) != 34) = true := by rw [bne_iff_ne]; omega
        refine Ev.ite_pos e (Ev.ite_pos (by omega) (Ev.ite_pos (by omega) ?_))
        have e0 : ((i : Int)).toNat = i := by omega
        have e1 : L (s.extract i s.size) = c :: r := by rw [L_extract, h, List.take_of_length_le]; rw [← h, List.length_drop, L_length]; omega
        rw [e0]
        refine Ev.bind (lpiece _) ?_
        rw [e1]
        unfold ql
        rw [if_neg hq]
        unfold pcI
        cases hp : pc (c :: r) with
        | none => exact Ev.ite_pos rfl (Ev.some_ rfl)
        | some q =>
          obtain ⟨b, n⟩ := q
          obtain ⟨p1, p2⟩ := pc_pos hp
          have hlen := congrArg List.length h
          rw [List.length_drop, L_length] at hlen
          obtain ⟨q2, q3⟩ := quo_arith hlen p2 p1 hz hi
          refine Ev.ite_neg (by simp; omega) ?_
          have hnl : (nums A).length = A.length := by unfold nums; simp
          have ed : (c :: r).drop n = (L s).drop (i + n) := by rw [← h, List.drop_drop]
          by_cases hA2 : A.length = 4096
          · refine Ev.ite_pos (by omega) (Ev.some_ ?_)
            simp only [ed]
            cases ql f ((L s).drop (i + n)) with
            | none => rfl
            | some z => obtain ⟨t, m⟩ := z; simp only [qI, List.length_cons]; rw [if_neg (by omega)]
          · have q4 : (A ++ [b]).length ≤ 4096 := len_snoc (by omega)
            refine Ev.ite_neg (by omega) (Ev.ite_pos (by omega) ?_)
            have e2 : nums A ++ [(b.toNat : Int)] = nums (A ++ [b]) := by unfold nums; simp
            have e3 : wrap64 ((i : Int) + (n : Int)) = ((i + n : Nat) : Int) := by rw [wrap_id (by omega) (by omega)]; omega
            simp only
            rw [e2, e3]
            refine (lquo_loop s hs f (A ++ [b]) (i + n) q4 (drop_len q2) q3).eq ?_
            rw [ed]
            cases ql f ((L s).drop (i + n)) with
            | none => rfl
            | some z =>
              obtain ⟨t, m⟩ := z
              simp only [qI, List.length_append, List.length_cons, List.length_nil, List.append_assoc, List.singleton_append]
              by_cases hh : A.length + (t.length + 1) ≤ 4096
              · rw [if_pos (by omega), if_pos hh, Nat.add_assoc]
              · rw [if_neg (by omega), if_neg hh]
theorem rquo_loop (s : ByteArray) (hs : s.size ≤ 1048576) : ∀ (f : Nat) (A : List UInt8) (i : Nat), A.length ≤ i → ((L s).drop i).length < f → i ≤ s.size →
    Ev (fun k => treadleref12_quoted.l0 k s (nums A) i) (qI (-1) A i (ql f ((L s).drop i)))
  | 0, A, i, hA, hl, hi => by omega
  | f + 1, A, i, hA, hl, hi => by
    have hz : s.size - i < f + 1 := by rw [List.length_drop, L_length] at hl; exact hl
    clear hl
    have hnl : (nums A).length = A.length := by unfold nums; simp
    refine Ev.step (fun k => treadleref12_quoted.l0.eq_2 _ _ _ k) ?_
    cases h : (L s).drop i with
    | nil =>
      have h1 := drop_none h; rw [L_length] at h1
      refine Ev.ite_neg (by omega) ?_
      refine Ev.step (fun k => treadleref12_quoted.j1.eq_2 _ _ _ _ k) ?_
      refine Ev.ite_neg (by simp) ?_
      refine Ev.bind (rpiece s hs i (by omega)) ?_
      rw [h]
      exact Ev.ite_pos rfl (Ev.some_ rfl)
    | cons c r =>
      obtain ⟨hb, hi'⟩ := bt_drop h
      refine Ev.ite_pos (by omega) (Ev.ite_pos (by omega) ?_)
      refine Ev.step (fun k => treadleref12_quoted.j1.eq_2 _ _ _ _ k) ?_
      rw [hb]
      by_cases hq : c.toNat = 34
      · have e : ((c.toNat : Int) == 34) = true := by simp; omega
        refine Ev.ite_pos e ?_
        by_cases hA2 : A.length ≤ 4096
        · refine Ev.ite_neg (by omega) (Ev.some_ ?_)
          rw [strOfNums_nums, wrap_succ (by omega)]
          simp only [ql, hq, if_true, qI, List.append_nil, List.length_nil]
          rw [if_pos (by omega)]
        · refine Ev.ite_pos (by omega) (Ev.some_ ?_)
          simp only [ql, hq, if_true, qI, List.append_nil, List.length_nil]
          rw [if_neg (by omega)]
      · have e : ((c.toNat : Int) == 34) = false := by simp; omega
        refine Ev.ite_neg (by simp [e]) ?_
        refine Ev.bind (rpiece s hs i (by omega)) ?_
        rw [h]
        unfold ql
        rw [if_neg hq]
        unfold pcI
        cases hp : pc (c :: r) with
        | none => exact Ev.ite_pos rfl (Ev.some_ rfl)
        | some q =>
          obtain ⟨b, n⟩ := q
          obtain ⟨p1, p2⟩ := pc_pos hp
          have hlen := congrArg List.length h
          rw [List.length_drop, L_length] at hlen
          obtain ⟨q2, q3⟩ := quo_arith hlen p2 p1 hz hi
          have q4 : (A ++ [b]).length ≤ i + n := len_snoc (by omega)
          refine Ev.ite_neg (by simp; omega) (Ev.ite_pos (by omega) ?_)
          have ed : (c :: r).drop n = (L s).drop (i + n) := by rw [← h, List.drop_drop]
          have e2 : nums A ++ [(b.toNat : Int)] = nums (A ++ [b]) := by unfold nums; simp
          have e3 : wrap64 ((i : Int) + (n : Int)) = ((i + n : Nat) : Int) := by rw [wrap_id (by omega) (by omega)]; omega
          simp only
          rw [e2, e3]
          refine (rquo_loop s hs f (A ++ [b]) (i + n) q4 (drop_len q2) q3).eq ?_
          rw [ed]
          cases ql f ((L s).drop (i + n)) with
          | none => rfl
          | some z =>
            obtain ⟨t, m⟩ := z
            simp only [qI, List.length_append, List.length_cons, List.length_nil, List.append_assoc, List.singleton_append]
            by_cases hh : A.length + (t.length + 1) ≤ 4096
            · rw [if_pos (by omega), if_pos hh, Nat.add_assoc]
            · rw [if_neg (by omega), if_neg hh]
def quo (r : List UInt8) : Option (List UInt8 × Nat) := match ql (r.length + 1) r with
  | none => none
  | some (t, m) => if t.length ≤ 4096 then some (t, m + 1) else none
theorem lquoted (s : ByteArray) (hs : s.size ≤ 1048576) : Ev (fun k => lex_quoted.f k s) (match L s with
    | [] => (⟨#[]⟩, 0)
    | c :: r => if c.toNat = 34 then (match quo r with | none => (⟨#[]⟩, 0) | some (t, n) => (mkB t, (n : Int))) else (⟨#[]⟩, 0)) := by
  unfold lex_quoted.f
  cases h : L s with
  | nil =>
    refine Ev.ite_pos (by rw [toList_L, h]) (Ev.step (fun k => lex_quoted.j0.eq_2 _ _ k) (Ev.ite_pos rfl (Ev.some_ rfl)))
  | cons c r =>
    obtain ⟨hb0, hi0⟩ := bt_drop (i := 0) (s := s) (c := c) (r := r) (by simpa using h)
    have hb0 : bt s 0 = (c.toNat : Int) := hb0
    have hr : (L s).drop 1 = r := by rw [h]; rfl
    refine Ev.ite_neg (by rw [toList_L, h]; simp) (Ev.ite_pos (by omega) (Ev.step (fun k => lex_quoted.j0.eq_2 _ _ k) ?_))
    rw [hb0]
    by_cases hq : c.toNat = 34
    · have e : ((c.toNat : Int) != 34) = false := by rw [bne_eq_false_iff_eq]; omega
      refine Ev.ite_neg (by simp [e]) ((lquo_loop s hs (r.length + 1) [] 1 (by simp) (by rw [hr]; omega) (by omega)).eq ?_)
      rw [hr]
      simp only [if_pos hq]
      unfold quo
      cases ql (r.length + 1) r with
      | none => rfl
      | some z =>
        obtain ⟨t, m⟩ := z
        simp only [qI, List.length_nil, List.nil_append, Nat.zero_add]
        by_cases ht : t.length ≤ 4096
        · simp only [if_pos ht]; rw [Nat.add_comm]
        · simp only [if_neg ht]
    · have e : ((c.toNat : Int) != 34) = true := by rw [bne_iff_ne]; omega
      exact Ev.ite_pos e (Ev.some_ (by simp [hq]))
theorem rquoted (s : ByteArray) (hs : s.size ≤ 1048576) (i : Nat) (c : UInt8) (r : List UInt8) (h : (L s).drop i = c :: r) : Ev (fun k => treadleref12_quoted.f k s i) (match quo r with | none => (⟨#[]⟩, -1) | some (t, n) => (mkB t, ((i + n : Nat) : Int))) := by
  unfold treadleref12_quoted.f
  obtain ⟨hb0, hi0⟩ := bt_drop h
  have hr := (drop_some h).2.2
  rw [wrap_succ (by omega)]
  refine (rquo_loop s hs (r.length + 1) [] (i + 1) (by simp) (by rw [hr]; omega) (by omega)).eq ?_
  rw [hr]
  unfold quo
  cases ql (r.length + 1) r with
  | none => rfl
  | some z =>
    obtain ⟨t, m⟩ := z
    simp only [qI, List.length_nil, List.nil_append, Nat.zero_add]
    by_cases ht : t.length ≤ 4096
    · simp only [if_pos ht]
      have : i + 1 + m = i + (m + 1) := by omega
      rw [this]
    · simp only [if_neg ht]
def isL (c : UInt8) : Bool := isLetter (c.toNat : Int)
def isD (c : UInt8) : Bool := isDigit (c.toNat : Int)
def isW (c : UInt8) : Bool := isL c || isD c
theorem isD_iff (c : UInt8) : isD c = true ↔ (48 ≤ c.toNat ∧ c.toNat ≤ 57) := by
  unfold isD isDigit
  simp only [Bool.and_eq_true, decide_eq_true_eq]
  constructor <;> intro h <;> omega
theorem lletter (c : UInt8) : lex_letter.f (c.toNat : Int) = some (isL c) := by
  simpa using byte_all (p := fun c => decide (lex_letter.f (c.toNat : Int) = some (isL c))) (by decide +kernel) c
theorem rletter (c : UInt8) : treadleref12_Letter.f (c.toNat : Int) = some (isL c) := by
  simpa using byte_all (p := fun c => decide (treadleref12_Letter.f (c.toNat : Int) = some (isL c))) (by decide +kernel) c
theorem ldigit (c : UInt8) : lex_digit.f (c.toNat : Int) = some (isD c) := by
  simpa using byte_all (p := fun c => decide (lex_digit.f (c.toNat : Int) = some (isD c))) (by decide +kernel) c
theorem rdigit (c : UInt8) : treadleref12_Digit.f (c.toNat : Int) = some (isD c) := by
  simpa using byte_all (p := fun c => decide (treadleref12_Digit.f (c.toNat : Int) = some (isD c))) (by decide +kernel) c
def dv (c : UInt8) : Nat := c.toNat - 48
def val (a : Nat) (l : List UInt8) : Nat := l.foldl (fun x c => 10 * x + dv c) a
theorem val_nil (a : Nat) : val a [] = a := List.foldl_nil
theorem val_cons (a : Nat) (c : UInt8) (r : List UInt8) : val a (c :: r) = val (10 * a + dv c) r := List.foldl_cons ..
attribute [irreducible] val
theorem val_ge : ∀ (l : List UInt8) (a : Nat), a ≤ val a l
  | [], a => by rw [val_nil]; exact Nat.le_refl _
  | c :: r, a => by
    rw [val_cons]
    have := val_ge r (10 * a + dv c)
    generalize val (10 * a + dv c) r = X at *
    omega
def lead0 : List UInt8 → Bool
  | [] => true
  | c :: r => decide (c.toNat = 48) && !r.isEmpty
def numOk (l : List UInt8) : Bool := l.all isD && !lead0 l && decide (val 0 l ≤ 9223372036854775807)
theorem parseU (l : List UInt8) : ∀ (a : Nat), l.all isD = true → a ≤ 18446744073709551615 → Lib.parseUintM 18446744073709551615 a l = if val a l ≤ 18446744073709551615 then .ok (val a l) else .range := by
  induction l with
  | nil => intro a _ ha; unfold Lib.parseUintM; rw [val_nil, if_pos ha]
  | cons c r ih =>
    intro a hl ha
    simp only [List.all_cons, Bool.and_eq_true] at hl
    have hc := (isD_iff c).mp hl.1
    unfold Lib.parseUintM
    rw [val_cons]
    rw [if_pos hc]
    have hv := val_ge r (10 * a + dv c)
    have hd : dv c = c.toNat - 48 := rfl
    by_cases h1 : 1844674407370955162 ≤ a
    · rw [if_pos h1, if_neg (by generalize val (10 * a + dv c) r = X at *; omega)]
    rw [if_neg h1]
    have e : a * 10 + (c.toNat - 48) = 10 * a + dv c := by rw [hd, Nat.mul_comm]
    rw [e]
    by_cases h2 : 18446744073709551615 < 10 * a + dv c
    · rw [if_pos h2, if_neg (by generalize val (10 * a + dv c) r = X at *; omega)]
    · rw [if_neg h2, ih _ hl.2 (by omega)]
theorem parseI (c : UInt8) (r : List UInt8) (h : (c :: r).all isD = true) : Lib.parseIntB 64 (c :: r) = if val 0 (c :: r) ≤ 9223372036854775807 then .ok ((val 0 (c :: r) : Nat) : Int) else .range := by
  have hc : isD c = true := by simp only [List.all_cons, Bool.and_eq_true] at h; exact h.1
  have hc := (isD_iff c).mp hc
  unfold Lib.parseIntB
  simp only
  rw [if_neg (by omega)]
  unfold Lib.parseUintB
  rw [if_neg (by simp)]
  have e64 : (2 ^ 64 - 1 : Nat) = 18446744073709551615 := by decide
  have e63 : (2 ^ (64 - 1) : Nat) = 9223372036854775808 := by decide
  rw [e64, e63, parseU _ 0 h (by omega)]
  have hn : ¬ c.toNat = 45 := by omega
  generalize val 0 (c :: r) = X
  by_cases h1 : X ≤ 18446744073709551615
  · rw [if_pos h1]
    simp only
    by_cases h2 : X ≤ 9223372036854775807
    · rw [if_neg (by omega), if_neg (by omega), if_pos h2, if_neg hn]
    · rw [if_pos (by omega), if_neg h2]
  · rw [if_neg h1]
    simp only
    rw [if_neg (by omega)]
theorem dec_snoc {u : Nat} (hu : 1 ≤ u) (c : UInt8) (hc : isD c = true) : Lib.decDigits (10 * u + dv c) = Lib.decDigits u ++ [c] := by
  have h := (isD_iff c).mp hc
  have hd : dv c = c.toNat - 48 := rfl
  rw [Lib.decDigits, dif_neg (by omega)]
  have e1 : (10 * u + dv c) / 10 = u := by omega
  have e2 : (10 * u + dv c) % 10 = dv c := by omega
  rw [e1, e2]
  have e3 : UInt8.ofNat (48 + dv c) = c := by rw [hd, show 48 + (c.toNat - 48) = c.toNat by omega]; simp
  rw [e3]
theorem dec_val : ∀ (r : List UInt8) (u : Nat), 1 ≤ u → r.all isD = true → Lib.decDigits (val u r) = Lib.decDigits u ++ r
  | [], u, _, _ => by rw [val_nil, List.append_nil]
  | c :: r, u, hu, hr => by
    simp only [List.all_cons, Bool.and_eq_true] at hr
    rw [val_cons]
    rw [dec_val r (10 * u + dv c) (by omega) hr.2, dec_snoc hu c hr.1]
    simp
theorem dec_head (u : Nat) : 1 ≤ u → ∀ t, Lib.decDigits u ≠ 48 :: t := by
  induction u using Nat.strongRecOn with
  | ind u ih =>
    intro hu t h
    rw [Lib.decDigits] at h
    split at h
    · injection h with h1 _
      have := congrArg UInt8.toNat h1
      rw [UInt8.toNat_ofNat_of_lt' (by show 48 + u < 256; omega)] at this
      have h48 : (48 : UInt8).toNat = 48 := rfl
      omega
    · rename_i hlt
      cases hx : Lib.decDigits (u / 10) with
      | nil => 
        have := Lib.decDigits_length (u / 10)
        have h2 := Lib.nDigits_pos (u / 10)
        rw [hx] at this; simp at this; omega
      | cons d x =>
        rw [hx] at h
        injection h with h1 _
        subst h1
        exact ih (u / 10) (by omega) (by omega) x hx
theorem itoa_lead (c : UInt8) (r : List UInt8) (h : (c :: r).all isD = true) : decide (Lib.itoa ((val 0 (c :: r) : Nat) : Int) = c :: r) = !lead0 (c :: r) := by
  have hh := h
  simp only [List.all_cons, Bool.and_eq_true] at h
  have hc := (isD_iff c).mp h.1
  have hi : Lib.itoa ((val 0 (c :: r) : Nat) : Int) = Lib.decDigits (val 0 (c :: r)) := by
    unfold Lib.itoa
    rw [if_neg (Int.not_lt.mpr (Int.natCast_nonneg _)), Int.toNat_natCast]
  rw [hi]
  have e0 : val 0 (c :: r) = val (dv c) r := by rw [val_cons, show 10 * 0 + dv c = dv c by omega]
  rw [e0]
  have hd : dv c = c.toNat - 48 := rfl
  have ec : UInt8.ofNat (48 + dv c) = c := by rw [hd, show 48 + (c.toNat - 48) = c.toNat by omega]; simp
  by_cases h0 : c.toNat = 48
  · have hz : dv c = 0 := by omega
    have hc48 : c = 48 := by rw [← ec, hz]; rfl
    unfold lead0
    cases r with
    | nil =>
      have hz : Lib.decDigits (val (dv c) []) = [c] := by
        rw [val_nil, Lib.decDigits_one (by omega), ec]
      rw [decide_eq_true hz]; simp
    | cons d r =>
      have : ¬ Lib.decDigits (val (dv c) (d :: r)) = c :: d :: r := by
        intro hx
        have hx' : Lib.decDigits (val (dv c) (d :: r)) = 48 :: (d :: r) := hx.trans (by rw [hc48])
        rcases Nat.eq_zero_or_pos (val (dv c) (d :: r)) with hv | hv
        · rw [hv, Lib.decDigits_one (by omega)] at hx'; simp at hx'
        · exact dec_head _ hv _ hx'
      simp [this, h0]
  · unfold lead0
    rw [dec_val r (dv c) (by omega) h.2, Lib.decDigits_one (by omega), ec]
    simp [h0]
theorem lwhole (s : ByteArray) (hs : s.size ≤ 1048576) (h : (L s).all isD = true) (hne : L s ≠ []) : ∃ v, lex_whole.f s = some (v, numOk (L s)) ∧ (numOk (L s) = true → v = ((val 0 (L s) : Nat) : Int)) := by
  cases hl : L s with
  | nil => exact absurd hl hne
  | cons c r =>
    have hl' : s.data.toList = c :: r := hl
    have hall : (c :: r).all isD = true := by rw [← hl]; exact h
    have hc : isDigit (c.toNat : Int) = true := by
      simp only [List.all_cons, Bool.and_eq_true] at hall; exact hall.1
    unfold lex_whole.f
    rw [hl']
    simp only
    rw [if_pos ⟨hc, by omega⟩, parseI c r hall]
    unfold numOk
    by_cases h2 : val 0 (c :: r) ≤ 9223372036854775807
    · rw [if_pos h2]
      simp only
      rw [itoa_lead c r hall, hall, decide_eq_true h2]
      exact ⟨_, by simp, fun _ => rfl⟩
    · rw [if_neg h2]
      simp only
      rw [decide_eq_false h2]
      exact ⟨_, by simp; rfl, by simp⟩
def numR (l : List UInt8) : Int × Int := if numOk l = true then (((val 0 l : Nat) : Int), 0) else (0, 121)
theorem rnum_arith (a d : Nat) (hd : d ≤ 9) : ((a : Int) > ((9223372036854775807 - (d : Int)) / 10)) ↔ ¬ (10 * a + d ≤ 9223372036854775807) := by omega
theorem u64_id (x : Nat) (h : x ≤ 9223372036854775807) : IntKind.u64.wrap (x : Int) = (x : Int) := by
  simp only [IntKind.wrap, IntKind.bits, IntKind.signed, Bool.false_and, if_false, Bool.false_eq_true]
  omega
theorem wrap63 (x : Nat) (h : x ≤ 9223372036854775807) : wrap64 (x : Int) = (x : Int) := by unfold wrap64; omega
theorem rnum_loop (s : ByteArray) (hs : s.size ≤ 1048576) : ∀ (r : List UInt8) (i a : Nat), (L s).drop i = r → a ≤ 9223372036854775807 →
    Ev (fun k => treadleref12_Number.l0 k s a i) (if (r.all isD && decide (val a r ≤ 9223372036854775807)) = true then (((val a r : Nat) : Int), 0) else (0, 121))
  | [], i, a, h, ha => by
    have := drop_none h; rw [L_length] at this
    refine Ev.step (fun k => treadleref12_Number.l0.eq_2 _ _ _ k) (Ev.ite_neg (by omega) (Ev.some_ ?_))
    rw [wrap63 a ha, val_nil, decide_eq_true ha]; rfl
  | c :: r, i, a, h, ha => by
    obtain ⟨hb, hi⟩ := bt_drop h
    refine Ev.step (fun k => treadleref12_Number.l0.eq_2 _ _ _ k) (Ev.ite_pos (by omega) (Ev.ite_pos (by omega) ?_))
    rw [hb]
    refine Ev.bind_now (rdigit c) ?_
    by_cases hc : isD c = true
    · have hc' := (isD_iff c).mp hc
      have e1 : ((c.toNat : Int) - 48) % 256 = ((dv c : Nat) : Int) := by unfold dv; omega
      have hd9 : dv c ≤ 9 := by unfold dv; omega
      refine Ev.ite_pos hc ?_
      rw [e1]
      by_cases hx : 10 * a + dv c ≤ 9223372036854775807
      · refine Ev.ite_neg (fun hh => (rnum_arith a _ hd9).mp hh hx) ?_
        have e2 : IntKind.u64.wrap (10 * (a : Int)) = ((10 * a : Nat) : Int) := by rw [← u64_id (10 * a) (by omega)]; rfl
        have e3 : IntKind.u64.wrap (((10 * a : Nat) : Int) + ((dv c : Nat) : Int)) = ((10 * a + dv c : Nat) : Int) := by rw [← u64_id (10 * a + dv c) hx]; rfl
        rw [e2, e3, wrap_succ (by omega)]
        refine (rnum_loop s hs r (i + 1) (10 * a + dv c) (drop_some h).2.2 hx).eq ?_
        simp only [List.all_cons, hc, Bool.true_and, val_cons]
      · refine Ev.ite_pos ((rnum_arith a _ hd9).mpr hx) (Ev.some_ ?_)
        have hv := val_ge r (10 * a + dv c)
        have : ¬ val a (c :: r) ≤ 9223372036854775807 := by
          rw [val_cons]; intro hq; exact hx (Nat.le_trans hv hq)
        rw [decide_eq_false this]; simp
    · refine Ev.ite_neg hc (Ev.some_ ?_)
      simp [hc]
theorem rnumber (s : ByteArray) (hs : s.size ≤ 1048576) : Ev (fun k => treadleref12_Number.f k s) (numR (L s)) := by
  unfold treadleref12_Number.f
  cases h : L s with
  | nil =>
    have : s.size = 0 := by rw [size_eq_L, h]; rfl
    exact Ev.ite_pos (by omega) (Ev.step (fun k => treadleref12_Number.j0.eq_2 _ _ k) (Ev.ite_pos rfl (Ev.some_ (by simp [numR, numOk, lead0]))))
  | cons c r =>
    obtain ⟨hb0, hi0⟩ := bt_drop (i := 0) (s := s) (c := c) (r := r) (by simpa using h)
    have hb0 : bt s 0 = (c.toNat : Int) := hb0
    have hsz : s.size = r.length + 1 := by rw [size_eq_L, h]; rfl
    have hgo : ∀ b : Bool, b = false → lead0 (c :: r) = false → Ev (fun k => treadleref12_Number.j0 k s b) (numR (c :: r)) := fun b hb hl => by
      refine Ev.step (fun k => treadleref12_Number.j0.eq_2 _ _ k) (Ev.ite_neg (by simp [hb]) ?_)
      refine (rnum_loop s hs (c :: r) 0 0 (by simpa using h) (by omega)).eq ?_
      unfold numR numOk; rw [hl]; simp
    refine Ev.ite_neg (by omega) ?_
    by_cases h1 : r = []
    · subst h1
      refine Ev.ite_neg (by simp at hsz; omega) (hgo _ rfl (by simp [lead0]))
    · have : 1 ≤ r.length := by cases r with | nil => exact absurd rfl h1 | cons _ _ => simp
      refine Ev.ite_pos (by omega) (Ev.ite_pos (by omega) ?_)
      rw [hb0]
      by_cases h2 : c.toNat = 48
      · have e : ((c.toNat : Int) == 48) = true := by simp; omega
        refine Ev.step (fun k => treadleref12_Number.j0.eq_2 _ _ k) (Ev.ite_pos e (Ev.some_ ?_))
        have : lead0 (c :: r) = true := by cases r with | nil => exact absurd rfl h1 | cons _ _ => simp [lead0, h2]
        unfold numR numOk; rw [this]; simp
      · have e : ((c.toNat : Int) == 48) = false := by simp; omega
        exact hgo _ e (by simp [lead0, h2])
theorem among_loop (l : List ByteArray) (hl : l.length ≤ 1048576) (a : ByteArray) : ∀ (r : List ByteArray) (i : Nat), l.drop i = r → Ev (fun k => treadleref12_among.l0 k l a i) (r.any (fun x => decide (L x = L a)))
  | [], i, h => by
    have := drop_none h
    exact Ev.step (fun k => treadleref12_among.l0.eq_2 _ _ _ k) (Ev.ite_neg (by omega) (Ev.some_ rfl))
  | x :: r, i, h => by
    have hi := (drop_some h).1
    refine Ev.step (fun k => treadleref12_among.l0.eq_2 _ _ _ k) (Ev.ite_pos (by omega) (Ev.ite_pos (by omega) ?_))
    rw [rdOf_drop h, toList_L, toList_L]
    by_cases hx : L x = L a
    · exact Ev.ite_pos hx (Ev.some_ (by rw [List.any_cons, decide_eq_true hx]; rfl))
    · refine Ev.ite_neg hx ?_
      rw [wrap_succ (by omega)]
      exact (among_loop l hl a r (i + 1) (drop_some h).2.2).eq (by rw [List.any_cons, decide_eq_false hx]; rfl)
theorem ramong (l : List ByteArray) (hl : l.length ≤ 1048576) (a : ByteArray) : Ev (fun k => treadleref12_among.f k l a) ((l.map L).any (fun x => decide (x = L a))) :=
  (among_loop l hl a l 0 rfl).eq (by rw [List.any_map]; rfl)
theorem any_mem (l : List (List UInt8)) (a : List UInt8) : l.any (fun x => decide (x = a)) = decide (a ∈ l) := by
  rw [Bool.eq_iff_iff]; simp
theorem rkey (a : ByteArray) : Ev (fun k => treadleref12_Key.f k a) (decide (L a ∈ keyTexts)) := by
  unfold treadleref12_Key.f
  refine Ev.bind_now rfl ?_
  refine Ev.bind ((ramong _ (by simp) a).eq (?_ : _ = decide (L a ∈ keyTexts))) (Ev.some_ rfl)
  rw [any_mem]; rfl
theorem lkey (a : ByteArray) : lex_Key.f a = some (decide (L a ∈ keyTexts)) := rfl
def sgn (l : List UInt8) : Nat := if l.take 2 ∈ twoSigns then 2 else match l with | [] => 0 | c :: _ => if c ∈ oneSigns then 1 else 0
theorem two_len (t : List UInt8) (h : t ∈ twoSigns) : t.length = 2 := by
  unfold twoSigns at h; simp at h; rcases h with rfl | rfl | rfl | rfl | rfl | rfl | rfl <;> rfl
theorem lsign (s : ByteArray) (h : L s ≠ []) : lex_sign.f s = some ((sgn (L s) : Nat) : Int) := by
  unfold lex_sign.f sgn
  have e : twoSigns.any (fun t => decide (s.data.toList.take 2 = t)) = decide ((L s).take 2 ∈ twoSigns) := by
    rw [Bool.eq_iff_iff]; simp [L]
  rw [e]
  by_cases h2 : (L s).take 2 ∈ twoSigns
  · rw [if_pos (by simpa using h2), if_pos h2]; rfl
  rw [if_neg (by simpa using h2), if_neg h2]
  cases hl : L s with
  | nil => exact absurd hl h
  | cons c r =>
    obtain ⟨hb0, hi0⟩ := bt_drop (i := 0) (s := s) (c := c) (r := r) (by simpa using hl)
    have hb0 : bt s 0 = (c.toNat : Int) := hb0
    rw [if_neg (by omega), hb0]
    have ec : ((c.toNat : Int)).toNat.toUInt8 = c := by simp
    rw [ec]
    have := byte_all (p := fun c => decide (Lib.indexByte oneSigns c ≥ 0) == decide (c ∈ oneSigns)) (by decide +kernel) c
    have this : decide (Lib.indexByte oneSigns c ≥ 0) = decide (c ∈ oneSigns) := by simpa using this
    simp only
    by_cases h1 : c ∈ oneSigns
    · rw [if_pos (by rw [decide_eq_true h1] at this; exact of_decide_eq_true this), if_pos h1]; rfl
    · rw [if_neg (by rw [decide_eq_false h1] at this; exact of_decide_eq_false this), if_neg h1]; rfl
theorem rsign (s : ByteArray) (hs : s.size ≤ 1048576) (i : Nat) (c : UInt8) (r : List UInt8) (h : (L s).drop i = c :: r) : Ev (fun k => treadleref12_sign.f k s i) ((sgn (c :: r) : Nat) : Int) := by
  obtain ⟨hb, hi⟩ := bt_drop h
  have w1 : wrap64 ((i : Int) + 1) = ((i + 1 : Nat) : Int) := wrap_succ (by omega)
  have w2 : wrap64 ((i : Int) + 2) = ((i + 2 : Nat) : Int) := by rw [wrap_id (by omega) (by omega)]; omega
  have hsz : s.size = i + r.length + 1 := by
    have := congrArg List.length h
    rw [List.length_drop, L_length, List.length_cons] at this; omega
  have e0 : ((i : Int)).toNat = i := by omega
  have e1 : ((i + 1 : Nat) : Int).toNat = i + 1 := by omega
  have e2 : ((i + 2 : Nat) : Int).toNat = i + 2 := by omega
  have p1 : (0 : Int) ≤ (i : Int) := by omega
  have p2 : (i : Int) ≤ ((i + 1 : Nat) : Int) := by omega
  have p3 : (i : Int) ≤ ((i + 2 : Nat) : Int) := by omega
  have p4 : ((i + 1 : Nat) : Int) ≤ (s.size : Int) := by omega
  have p5 : ((i + 2 : Nat) : Int) ≤ (s.size : Int) ↔ 1 ≤ r.length := by omega
  unfold treadleref12_sign.f
  rw [w2]
  have hj : ∀ b : Bool, b = decide ((c :: r).take 2 ∈ twoSigns) → Ev (fun k => treadleref12_sign.j0 k s i b) ((sgn (c :: r) : Nat) : Int) := fun b hb' => by
    refine Ev.step (fun k => treadleref12_sign.j0.eq_2 _ _ _ k) ?_
    unfold sgn
    by_cases h2 : (c :: r).take 2 ∈ twoSigns
    · exact Ev.ite_pos (by rw [hb']; exact decide_eq_true h2) (Ev.some_ (by rw [if_pos h2]; rfl))
    · refine Ev.ite_neg (by rw [hb', decide_eq_false h2]; simp) ?_
      rw [w1, if_neg h2]
      refine Ev.ite_pos p1 (Ev.ite_pos p2 (Ev.ite_pos p4 ?_))
      rw [e0, e1]
      refine Ev.bind (ramong _ (by simp) _) ?_
      have ex : L (s.extract i (i + 1)) = [c] := by rw [L_extract, h, show i + 1 - i = 1 by omega]; rfl
      rw [ex, any_mem]
      have em : decide ([c] ∈ (List.map L [(⟨#[40]⟩ : ByteArray), (⟨#[41]⟩ : ByteArray), (⟨#[123]⟩ : ByteArray), (⟨#[125]⟩ : ByteArray), (⟨#[44]⟩ : ByteArray), (⟨#[59]⟩ : ByteArray), (⟨#[58]⟩ : ByteArray), (⟨#[46]⟩ : ByteArray), (⟨#[61]⟩ : ByteArray), (⟨#[60]⟩ : ByteArray), (⟨#[62]⟩ : ByteArray), (⟨#[43]⟩ : ByteArray), (⟨#[45]⟩ : ByteArray), (⟨#[42]⟩ : ByteArray), (⟨#[47]⟩ : ByteArray), (⟨#[37]⟩ : ByteArray), (⟨#[33]⟩ : ByteArray), (⟨#[35]⟩ : ByteArray)])) = decide (c ∈ oneSigns) := by
        rw [decide_eq_decide]; simp [L, oneSigns]
      rw [em]
      by_cases h1 : c ∈ oneSigns
      · exact Ev.ite_pos (by simpa using h1) (Ev.some_ (by simp [h1]))
      · exact Ev.ite_neg (by simpa using h1) (Ev.some_ (by simp [h1]))
  by_cases h2 : ((i + 2 : Nat) : Int) ≤ (s.size : Int)
  · refine Ev.ite_pos h2 (Ev.ite_pos p1 (Ev.ite_pos p3 ?_))
    rw [e0, e2]
    refine Ev.bind (ramong _ (by simp) _) (hj _ ?_)
    have ex : L (s.extract i (i + 2)) = (c :: r).take 2 := by rw [L_extract, h, show i + 2 - i = 2 by omega]
    rw [ex, any_mem]; rfl
  · refine Ev.ite_neg h2 (hj _ ?_)
    symm
    rw [decide_eq_false_iff_not]
    intro hm
    have := two_len _ hm
    have hr : ¬ 1 ≤ r.length := fun hh => h2 (p5.mpr hh)
    rw [List.length_take, List.length_cons] at this
    omega
def headL : List UInt8 → Bool
  | [] => false
  | c :: _ => isL c
def tokC (c : UInt8) (r : List UInt8) : Nat × Nat × Nat :=
    if isL c = true then
      if 32 < ((c :: r).takeWhile isW).length then (0, 0, 123) else if (c :: r).take ((c :: r).takeWhile isW).length ∈ keyTexts then (4, ((c :: r).takeWhile isW).length, 0) else (1, ((c :: r).takeWhile isW).length, 0)
    else if isD c = true then
      if (numOk ((c :: r).take ((c :: r).takeWhile isD).length) && !headL ((c :: r).drop ((c :: r).takeWhile isD).length)) = true then (2, ((c :: r).takeWhile isD).length, 0) else (0, 0, 121)
    else if c.toNat = 34 then
      match quo r with
      | none => (0, 0, 122)
      | some (t, n) => (3, n, 0)
    else if sgn (c :: r) = 0 then (0, 0, 120) else (5, sgn (c :: r), 0)
def tok : List UInt8 → Nat × Nat × Nat
  | [] => (0, 0, 120)
  | c :: r => tokC c r
theorem tw_le (p : UInt8 → Bool) (l : List UInt8) : (l.takeWhile p).length ≤ l.length := (List.takeWhile_sublist (p := p) (l := l)).length_le
theorem tw_take (p : UInt8 → Bool) (l : List UInt8) : l.take (l.takeWhile p).length = l.takeWhile p := by
  induction l with
  | nil => rfl
  | cons c r ih =>
    rw [List.takeWhile_cons]
    by_cases h : p c = true
    · simp [h, ih]
    · simp [h]
theorem tw_all (p : UInt8 → Bool) (l : List UInt8) : (l.takeWhile p).all p = true := by
  induction l with
  | nil => rfl
  | cons c r ih =>
    rw [List.takeWhile_cons]
    by_cases h : p c = true
    · rw [if_pos h, List.all_cons, h, ih]; rfl
    · simp [h]
theorem ql_le : ∀ (f : Nat) (l t : List UInt8) (m : Nat), ql f l = some (t, m) → 1 ≤ m ∧ m ≤ l.length
  | 0, l, t, m, h => by cases h
  | f + 1, [], t, m, h => by cases h
  | f + 1, c :: r, t, m, h => by
    unfold ql at h
    split at h
    · injection h with h; injection h with _ h; simp; omega
    · split at h
      · cases h
      · rename_i b n hp
        obtain ⟨p1, p2⟩ := pc_pos hp
        split at h
        · cases h
        · rename_i t' m' hq
          have ih := ql_le f _ t' m' hq
          rw [List.length_drop] at ih
          injection h with h; injection h with _ h; omega
theorem quo_le {r t : List UInt8} {n : Nat} (h : quo r = some (t, n)) : 2 ≤ n ∧ n ≤ r.length + 1 := by
  unfold quo at h
  split at h
  · cases h
  · rename_i t' m' hq
    have := ql_le _ _ _ _ hq
    split at h
    · injection h with h; injection h with _ h; omega
    · cases h
theorem sgn_le (c : UInt8) (r : List UInt8) : sgn (c :: r) ≤ r.length + 1 ∧ sgn (c :: r) ≤ 2 := by
  unfold sgn
  by_cases h : (c :: r).take 2 ∈ twoSigns
  · rw [if_pos h]
    have := two_len _ h
    rw [List.length_take, List.length_cons] at this; omega
  · rw [if_neg h]; simp only; split <;> omega
theorem tok_le (l : List UInt8) : (tok l).2.1 ≤ l.length := by
  cases l with
  | nil => exact Nat.zero_le _
  | cons c r =>
    show (tokC c r).2.1 ≤ _
    have h1 := tw_le isW (c :: r)
    have h2 := tw_le isD (c :: r)
    have h3 := (sgn_le c r).1
    unfold tokC
    split
    · split
      · exact Nat.zero_le _
      · split <;> exact h1
    · split
      · split
        · exact h2
        · exact Nat.zero_le _
      · split
        · cases hq : quo r with
          | none => exact Nat.zero_le _
          | some z => obtain ⟨t, n⟩ := z; have := (quo_le hq).2; exact this
        · split
          · exact Nat.zero_le _
          · exact h3
theorem run_word (s : ByteArray) (hs : s.size ≤ 1048576) : lex_run.f s 0 49 = some (((L s).takeWhile isW).length : Int) := by
  unfold lex_run.f
  rw [if_pos ⟨by omega, by omega, by omega⟩]
  have e1 : fnP 49 = some (fun c => isLetter c || isDigit c) := by unfold fnP; simp
  rw [e1]; rfl
theorem run_digit (s : ByteArray) (hs : s.size ≤ 1048576) : lex_run.f s 0 50 = some (((L s).takeWhile isD).length : Int) := by
  unfold lex_run.f
  rw [if_pos ⟨by omega, by omega, by omega⟩]
  have e1 : fnP 50 = some isDigit := by unfold fnP; simp
  rw [e1]; rfl
def tokI (x : Nat × Nat × Nat) : Int × Int × Int := (x.1, x.2.1, x.2.2)
theorem ltoken (s : ByteArray) (hs : s.size ≤ 1048576) (hne : L s ≠ []) : Ev (fun k => lex_token.f k s) (tokI (tok (L s))) := by
  cases h : L s with
  | nil => exact absurd h hne
  | cons c r =>
    obtain ⟨hb0, hi0⟩ := bt_drop (i := 0) (s := s) (c := c) (r := r) (by simpa using h)
    have hb0 : bt s 0 = (c.toNat : Int) := hb0
    have hsz : s.size = (c :: r).length := by rw [size_eq_L, h]
    unfold lex_token.f
    refine Ev.ite_pos (by omega) ?_
    rw [hb0]
    refine Ev.bind_now (lletter c) ?_
    show Ev _ (tokI (tokC c r))
    unfold tokC
    by_cases h1 : isL c = true
    · refine Ev.ite_pos h1 (Ev.bind_now (run_word s hs) ?_)
      rw [if_pos h1, h]
      have hle := tw_le isW (c :: r)
      have e0 : ∀ n : Nat, L (s.extract 0 (n : Int).toNat) = (c :: r).take n := fun n => by rw [L_extract, h]; simp
      generalize ((c :: r).takeWhile isW).length = n at *
      (try simp only)
      by_cases h2 : 32 < n
      · exact Ev.ite_pos (by omega) (Ev.some_ (by rw [if_pos h2]; rfl))
      refine Ev.ite_neg (by omega) (Ev.ite_pos (by omega) (Ev.ite_pos (by omega) (Ev.bind_now (lkey _) ?_)))
      rw [e0, if_neg h2]
      by_cases h3 : (c :: r).take n ∈ keyTexts
      · exact Ev.ite_pos (decide_eq_true h3) (Ev.some_ (by rw [if_pos h3]; rfl))
      · exact Ev.ite_neg (by rw [decide_eq_false h3]; simp) (Ev.some_ (by rw [if_neg h3]; rfl))
    refine Ev.ite_neg h1 (Ev.bind_now (ldigit c) ?_)
    rw [if_neg h1]
    by_cases h2 : isD c = true
    · refine Ev.ite_pos h2 (Ev.bind_now (run_digit s hs) ?_)
      rw [if_pos h2, h]
      have hle := tw_le isD (c :: r)
      have hall := tw_all isD (c :: r)
      have htk := tw_take isD (c :: r)
      have hpos : 1 ≤ ((c :: r).takeWhile isD).length := by rw [List.takeWhile_cons, h2]; simp
      rw [← htk] at hall
      clear htk
      generalize ((c :: r).takeWhile isD).length = n at *
      have e0 : L (s.extract 0 (n : Int).toNat) = (c :: r).take n := by rw [L_extract, h]; simp
      have hsz0 : (s.extract 0 (n : Int).toNat).size ≤ 1048576 := by rw [size_eq_L, e0, List.length_take]; omega
      have hne0 : L (s.extract 0 (n : Int).toNat) ≠ [] := by rw [e0]; cases n with | zero => omega | succ n => simp
      obtain ⟨v, hw, _⟩ := lwhole (s.extract 0 (n : Int).toNat) hsz0 (by rw [e0]; exact hall) hne0
      rw [e0] at hw
      (try simp only)
      refine Ev.ite_pos (by omega) (Ev.ite_pos (by omega) (Ev.bind_now hw ?_))
      have hj : ∀ b : Bool, b = !(numOk ((c :: r).take n) && !headL ((c :: r).drop n)) → Ev (fun k => lex_token.j0 k n b) (tokI (if (numOk ((c :: r).take n) && !headL ((c :: r).drop n)) = true then (2, n, 0) else (0, 0, 121))) := fun b hb => by
        refine Ev.step (fun k => lex_token.j0.eq_2 _ _ k) ?_
        cases hq : (numOk ((c :: r).take n) && !headL ((c :: r).drop n)) with
        | true => exact Ev.ite_neg (by rw [hb, hq]; simp) (Ev.some_ rfl)
        | false => exact Ev.ite_pos (by rw [hb, hq]; rfl) (Ev.some_ rfl)
      cases hn : numOk ((c :: r).take n) with
      | false =>
        refine Ev.ite_neg (by simp) ?_
        rw [hn] at hj; exact hj _ (by simp)
      | true =>
        rw [hn] at hj
        refine Ev.ite_pos rfl ?_
        cases hd : (c :: r).drop n with
        | nil =>
          have := drop_none hd
          rw [hd] at hj
          exact Ev.ite_neg (by omega) (hj _ (by simp [headL]))
        | cons d t =>
          obtain ⟨hbd, hid⟩ := bt_drop (s := s) (i := n) (c := d) (r := t) (by rw [h]; exact hd)
          rw [hd] at hj
          refine Ev.ite_pos (by omega) ?_
          rw [hbd]
          exact Ev.bind_now (lletter d) (hj _ (by simp [headL]))
    refine Ev.ite_neg h2 ?_
    rw [if_neg h2]
    by_cases h3 : c.toNat = 34
    · refine Ev.ite_pos (by omega) ?_
      rw [if_pos h3]
      have hq := lquoted s hs
      rw [h] at hq
      simp only [if_pos h3] at hq
      refine Ev.bind hq ?_
      cases hx : quo r with
      | none => exact Ev.ite_pos rfl (Ev.some_ rfl)
      | some z =>
        obtain ⟨t, n⟩ := z
        have := quo_le hx
        exact Ev.ite_neg (by simp only; omega) (Ev.some_ rfl)
    · refine Ev.ite_neg (by omega) ?_
      rw [if_neg h3]
      refine Ev.bind_now (lsign s (by rw [h]; simp)) ?_
      rw [h]
      by_cases h4 : sgn (c :: r) = 0
      · exact Ev.ite_pos (by omega) (Ev.some_ (by rw [if_pos h4]; rfl))
      · exact Ev.ite_neg (by omega) (Ev.some_ (by rw [if_neg h4]; rfl))
def tokR (i : Nat) (x : Nat × Nat × Nat) : Int × Int × Int × Int := if x.2.2 = 0 then (x.1, i, ((i + x.2.1 : Nat) : Int), 0) else (0, i, 0, x.2.2)
theorem rword_loop (s : ByteArray) (hs : s.size ≤ 1048576) (at_ : Nat) (R : Int × Int × Int × Int) : ∀ (r : List UInt8) (i : Nat), (L s).drop i = r →
    Ev (fun k => treadleref12_token.j1 k s at_ ((i + (r.takeWhile isW).length : Nat) : Int)) R → Ev (fun k => treadleref12_token.l0 k s at_ i) R
  | [], i, h, hR => by
    have := drop_none h; rw [L_length] at this
    exact Ev.step (fun k => treadleref12_token.l0.eq_2 _ _ _ k) (Ev.ite_neg (by omega) hR)
  | c :: r, i, h, hR => by
    obtain ⟨hb, hi⟩ := bt_drop h
    have ih := rword_loop s hs at_ R r (i + 1) (drop_some h).2.2
    refine Ev.step (fun k => treadleref12_token.l0.eq_2 _ _ _ k) (Ev.ite_pos (by omega) (Ev.ite_pos (by omega) ?_))
    rw [hb, wrap_succ (by omega)]
    rw [List.takeWhile_cons] at hR
    refine Ev.bind_now (rletter c) ?_
    by_cases h1 : isL c = true
    · refine Ev.ite_pos h1 (ih ?_)
      have : isW c = true := by unfold isW; rw [h1]; rfl
      rw [if_pos this, List.length_cons] at hR
      rw [show i + 1 + (r.takeWhile isW).length = i + ((r.takeWhile isW).length + 1) by omega]; exact hR
    refine Ev.ite_neg h1 (Ev.bind_now (rdigit c) ?_)
    by_cases h2 : isD c = true
    · refine Ev.ite_pos h2 (ih ?_)
      have : isW c = true := by unfold isW; rw [h2]; simp
      rw [if_pos this, List.length_cons] at hR
      rw [show i + 1 + (r.takeWhile isW).length = i + ((r.takeWhile isW).length + 1) by omega]; exact hR
    · refine Ev.ite_neg h2 ?_
      have : ¬ isW c = true := by unfold isW; simp [h1, h2]
      rw [if_neg this] at hR; exact hR
theorem rdig_loop (s : ByteArray) (hs : s.size ≤ 1048576) (at_ : Nat) (R : Int × Int × Int × Int) : ∀ (r : List UInt8) (i : Nat), (L s).drop i = r →
    Ev (fun k => treadleref12_token.j3 k s at_ ((i + (r.takeWhile isD).length : Nat) : Int)) R → Ev (fun k => treadleref12_token.l1 k s at_ i) R
  | [], i, h, hR => by
    have := drop_none h; rw [L_length] at this
    exact Ev.step (fun k => treadleref12_token.l1.eq_2 _ _ _ k) (Ev.ite_neg (by omega) hR)
  | c :: r, i, h, hR => by
    obtain ⟨hb, hi⟩ := bt_drop h
    have ih := rdig_loop s hs at_ R r (i + 1) (drop_some h).2.2
    refine Ev.step (fun k => treadleref12_token.l1.eq_2 _ _ _ k) (Ev.ite_pos (by omega) (Ev.ite_pos (by omega) ?_))
    rw [hb, wrap_succ (by omega)]
    rw [List.takeWhile_cons] at hR
    refine Ev.bind_now (rdigit c) ?_
    by_cases h2 : isD c = true
    · refine Ev.ite_pos h2 (ih ?_)
      rw [if_pos h2, List.length_cons] at hR
      rw [show i + 1 + (r.takeWhile isD).length = i + ((r.takeWhile isD).length + 1) by omega]; exact hR
    · refine Ev.ite_neg h2 ?_
      rw [if_neg h2] at hR; exact hR
theorem sub_id {a n : Nat} (h : n ≤ 1048576) : wrap64 (((a + n : Nat) : Int) - (a : Int)) = (n : Int) := by rw [wrap_id (by omega) (by omega)]; omega
theorem rtoken (s : ByteArray) (hs : s.size ≤ 1048576) (i : Nat) (hi : i < s.size) : Ev (fun k => treadleref12_token.f k s i) (tokR i (tok ((L s).drop i))) := by
  cases h : (L s).drop i with
  | nil => have := drop_none h; rw [L_length] at this; omega
  | cons c r =>
    obtain ⟨hb, _⟩ := bt_drop h
    have hlen : s.size - i = (c :: r).length := by rw [← h, List.length_drop, L_length]
    have ei : ((i : Int)).toNat = i := by omega
    unfold treadleref12_token.f
    refine Ev.ite_neg (by omega) (Ev.ite_pos (by omega) (Ev.ite_pos (by omega) ?_))
    rw [hb]
    refine Ev.bind_now (rletter c) ?_
    show Ev _ (tokR i (tokC c r))
    unfold tokC
    by_cases h1 : isL c = true
    · refine Ev.ite_pos h1 (rword_loop s hs i _ (c :: r) i h ?_)
      rw [if_pos h1]
      have hle := tw_le isW (c :: r)
      generalize ((c :: r).takeWhile isW).length = n at *
      have en : (((i + n : Nat) : Int)).toNat = i + n := by omega
      have e0 : L (s.extract i (i + n)) = (c :: r).take n := by rw [L_extract, h, show i + n - i = n by omega]
      refine Ev.step (fun k => treadleref12_token.j1.eq_2 _ _ _ k) ?_
      (try simp only)
      rw [sub_id (by omega)]
      by_cases h2 : 32 < n
      · exact Ev.ite_pos (by omega) (Ev.some_ (by rw [if_pos h2]; rfl))
      refine Ev.ite_neg (by omega) (Ev.ite_pos (by omega) (Ev.ite_pos (by omega) (Ev.ite_pos (by omega) ?_)))
      rw [ei, en]
      refine Ev.bind (rkey _) ?_
      rw [e0, if_neg h2]
      by_cases h3 : (c :: r).take n ∈ keyTexts
      · exact Ev.ite_pos (decide_eq_true h3) (Ev.some_ (by rw [if_pos h3]; rfl))
      · exact Ev.ite_neg (by rw [decide_eq_false h3]; simp) (Ev.some_ (by rw [if_neg h3]; rfl))
    refine Ev.ite_neg h1 (Ev.bind_now (rdigit c) ?_)
    rw [if_neg h1]
    by_cases h2 : isD c = true
    · refine Ev.ite_pos h2 (rdig_loop s hs i _ (c :: r) i h ?_)
      rw [if_pos h2]
      have hle := tw_le isD (c :: r)
      generalize ((c :: r).takeWhile isD).length = n at *
      have en : (((i + n : Nat) : Int)).toNat = i + n := by omega
      have e0 : L (s.extract i (i + n)) = (c :: r).take n := by rw [L_extract, h, show i + n - i = n by omega]
      have hsz0 : (s.extract i (i + n)).size ≤ 1048576 := by rw [size_eq_L, e0, List.length_take]; omega
      have hnum := rnumber (s.extract i (i + n)) hsz0
      rw [e0] at hnum
      refine Ev.step (fun k => treadleref12_token.j3.eq_2 _ _ _ k) ?_
      (try simp only)
      refine Ev.ite_pos (by omega) (Ev.ite_pos (by omega) (Ev.ite_pos (by omega) ?_))
      rw [ei, en]
      refine Ev.bind hnum ?_
      have hj : ∀ b : Bool, b = !(numOk ((c :: r).take n) && !headL ((c :: r).drop n)) → Ev (fun k => treadleref12_token.j4 k i ((i + n : Nat) : Int) b) (tokR i (if (numOk ((c :: r).take n) && !headL ((c :: r).drop n)) = true then (2, n, 0) else (0, 0, 121))) := fun b hb => by
        refine Ev.step (fun k => treadleref12_token.j4.eq_2 _ _ _ k) ?_
        cases hq : (numOk ((c :: r).take n) && !headL ((c :: r).drop n)) with
        | true => exact Ev.ite_neg (by rw [hb, hq]; simp) (Ev.some_ rfl)
        | false => exact Ev.ite_pos (by rw [hb, hq]; rfl) (Ev.some_ rfl)
      unfold numR
      cases hn : numOk ((c :: r).take n) with
      | false =>
        refine Ev.ite_neg (by simp) ?_
        rw [hn] at hj; exact hj _ (by simp)
      | true =>
        rw [hn] at hj
        refine Ev.ite_pos rfl ?_
        cases hd : (c :: r).drop n with
        | nil =>
          have := drop_none hd
          rw [hd] at hj
          exact Ev.ite_neg (by omega) (hj _ (by simp [headL]))
        | cons d t =>
          obtain ⟨hbd, hid⟩ := bt_drop (s := s) (i := i + n) (c := d) (r := t) (by rw [← List.drop_drop, h]; exact hd)
          rw [hd] at hj
          refine Ev.ite_pos (by omega) (Ev.ite_pos (by omega) ?_)
          rw [hbd]
          exact Ev.bind_now (rletter d) (hj _ (by simp [headL]))
    refine Ev.ite_neg h2 ?_
    rw [if_neg h2]
    by_cases h3 : c.toNat = 34
    · refine Ev.ite_pos (by omega) ?_
      rw [if_pos h3]
      refine Ev.bind (rquoted s hs i c r h) ?_
      cases hx : quo r with
      | none => exact Ev.ite_pos (by simp) (Ev.some_ rfl)
      | some z =>
        obtain ⟨t, n⟩ := z
        exact Ev.ite_neg (by simp only; omega) (Ev.some_ rfl)
    · refine Ev.ite_neg (by omega) ?_
      rw [if_neg h3]
      refine Ev.bind (rsign s hs i c r h) ?_
      have hs2 := (sgn_le c r).2
      by_cases h4 : sgn (c :: r) = 0
      · exact Ev.ite_pos (by omega) (Ev.some_ (by rw [if_pos h4]; rfl))
      · refine Ev.ite_neg (by omega) (Ev.some_ ?_)
        rw [if_neg h4, wrap_id (by omega) (by omega)]
        unfold tokR
        rw [if_pos rfl]
        simp
def nxt (l : List UInt8) (i : Nat) : Int × Int × Int × Int :=
  let g := i + gapL false (l.drop i)
  if g = l.length then (0, g, g, 0) else tokR g (tok (l.drop g))
def nxtI (s : ByteArray) (at_ : Int) : Int × Int × Int × Int :=
  if s.size > 65536 then (0, 0, 0, 3) else if at_ < 0 ∨ at_ > s.size then (0, 0, 0, 1) else nxt (L s) at_.toNat
theorem gap_le (s : ByteArray) (i : Nat) (hi : i ≤ s.size) : i + gapL false ((L s).drop i) ≤ s.size := by
  have := gapL_le ((L s).drop i) false
  rw [List.length_drop, L_length] at this; omega
theorem nextTok (s : ByteArray) (hs : s.size ≤ 1048576) (g : Nat) (hg : g ≤ s.size) : Ev (fun k => treadleref12_token.f k s g) (if g = (L s).length then (0, (g : Int), (g : Int), 0) else tokR g (tok ((L s).drop g))) := by
  rw [L_length]
  by_cases h : g = s.size
  · rw [if_pos h]
    unfold treadleref12_token.f
    exact Ev.ite_pos (by omega) (Ev.some_ rfl)
  · rw [if_neg h]; exact rtoken s hs g (by omega)
theorem rnext (s : ByteArray) (hs : s.size ≤ 1048576) (a : Int) : Ev (fun k => treadleref12_Next.f k s a) (nxtI s a) := by
  unfold treadleref12_Next.f nxtI
  by_cases h1 : s.size > 65536
  · exact Ev.ite_pos (by omega) (Ev.some_ (by rw [if_pos h1]))
  refine Ev.ite_neg (by omega) ?_
  rw [if_neg h1]
  have jt : ∀ b : Bool, b = true → Ev (fun k => treadleref12_Next.j0 k s a b) (0, 0, 0, 1) := fun b hb =>
    Ev.step (fun k => treadleref12_Next.j0.eq_2 _ _ _ k) (Ev.ite_pos hb (Ev.some_ rfl))
  by_cases h2 : a < 0
  · refine Ev.ite_pos h2 ?_
    rw [if_pos (Or.inl h2)]; exact jt _ rfl
  refine Ev.ite_neg h2 ?_
  by_cases h3 : a > s.size
  · rw [if_pos (Or.inr h3)]; exact jt _ (decide_eq_true h3)
  rw [if_neg (by omega), decide_eq_false h3]
  refine Ev.step (fun k => treadleref12_Next.j0.eq_2 _ _ _ k) (Ev.ite_neg (by simp) ?_)
  obtain ⟨i, rfl⟩ : ∃ i : Nat, a = (i : Int) := ⟨a.toNat, by omega⟩
  refine Ev.bind (rgap s hs i) (Ev.bind (nextTok s hs _ (gap_le s i (by omega))) (Ev.some_ ?_))
  simp only [nxt, Int.toNat_natCast]
theorem lnext (s : ByteArray) (hs : s.size ≤ 1048576) (a : Int) : Ev (fun k => lex_Next.f k s a) (nxtI s a) := by
  unfold lex_Next.f nxtI
  by_cases h1 : s.size > 65536
  · exact Ev.ite_pos (by omega) (Ev.some_ (by rw [if_pos h1]))
  refine Ev.ite_neg (by omega) ?_
  rw [if_neg h1]
  by_cases h2 : a < 0
  · exact Ev.ite_pos h2 (Ev.some_ (by rw [if_pos (Or.inl h2)]))
  refine Ev.ite_neg h2 ?_
  by_cases h3 : a > s.size
  · exact Ev.ite_pos h3 (Ev.some_ (by rw [if_pos (Or.inr h3)]))
  refine Ev.ite_neg h3 ?_
  rw [if_neg (by omega)]
  obtain ⟨i, rfl⟩ : ∃ i : Nat, a = (i : Int) := ⟨a.toNat, by omega⟩
  refine Ev.bind (lgap s hs i (by omega)) ?_
  simp only [nxt, Int.toNat_natCast]
  have hg := gap_le s i (by omega)
  generalize i + gapL false ((L s).drop i) = g at *
  rw [L_length]
  by_cases h4 : g = s.size
  · exact Ev.ite_pos (by omega) (Ev.some_ (by rw [if_pos h4]))
  refine Ev.ite_neg (by omega) (Ev.ite_pos (by omega) (Ev.ite_pos (by omega) ?_))
  rw [if_neg h4]
  have eg : ((g : Int)).toNat = g := by omega
  have e0 : L (s.extract g s.size) = (L s).drop g := by rw [L_extract, List.take_of_length_le]; rw [List.length_drop, L_length]; omega
  have hsz0 : (s.extract g s.size).size ≤ 1048576 := by rw [size_eq_L, e0, List.length_drop, L_length]; omega
  (try rw [eg])
  have ht := ltoken (s.extract g s.size) hsz0 (by rw [e0]; intro hx; have := drop_none hx; rw [L_length] at this; omega)
  rw [e0] at ht
  refine Ev.bind ht ?_
  have hle : (tok ((L s).drop g)).2.1 ≤ 4000000 := by
    have := tok_le ((L s).drop g)
    rw [List.length_drop, L_length] at this; omega
  unfold tokI tokR
  generalize tok ((L s).drop g) = x at *
  obtain ⟨x1, x2, x3⟩ := x
  simp only at hle ⊢
  by_cases h5 : x3 = 0
  · refine Ev.ite_pos (by omega) (Ev.some_ ?_)
    rw [if_pos h5, wrap_id (by omega) (by omega)]
    simp
  · exact Ev.ite_neg (by omega) (Ev.some_ (by rw [if_neg h5]))
theorem tok_ok (l : List UInt8) (h : (tok l).2.2 = 0) : 1 ≤ (tok l).2.1 ∧ 1 ≤ (tok l).1 ∧ (tok l).1 ≤ 5 := by
  cases l with
  | nil => simp [tok] at h
  | cons c r =>
    change (tokC c r).2.2 = 0 at h
    show 1 ≤ (tokC c r).2.1 ∧ 1 ≤ (tokC c r).1 ∧ (tokC c r).1 ≤ 5
    have hw : isL c = true → 1 ≤ ((c :: r).takeWhile isW).length := fun h1 => by
      rw [List.takeWhile_cons, if_pos (by unfold isW; rw [h1]; rfl)]; simp
    have hd : isD c = true → 1 ≤ ((c :: r).takeWhile isD).length := fun h1 => by
      rw [List.takeWhile_cons, if_pos h1]; simp
    unfold tokC at h ⊢
    by_cases h1 : isL c = true
    · rw [if_pos h1] at h ⊢
      by_cases h2 : 32 < ((c :: r).takeWhile isW).length
      · rw [if_pos h2] at h; cases h
      rw [if_neg h2] at h ⊢
      by_cases h3 : (c :: r).take ((c :: r).takeWhile isW).length ∈ keyTexts
      · rw [if_pos h3]; exact ⟨hw h1, by simp, by simp⟩
      · rw [if_neg h3]; exact ⟨hw h1, by simp, by simp⟩
    rw [if_neg h1] at h ⊢
    by_cases h2 : isD c = true
    · rw [if_pos h2] at h ⊢
      by_cases h3 : (numOk ((c :: r).take ((c :: r).takeWhile isD).length) && !headL ((c :: r).drop ((c :: r).takeWhile isD).length)) = true
      · rw [if_pos h3]; exact ⟨hd h2, by simp, by simp⟩
      · rw [if_neg h3] at h; cases h
    rw [if_neg h2] at h ⊢
    by_cases h3 : c.toNat = 34
    · rw [if_pos h3] at h ⊢
      cases hq : quo r with
      | none => rw [hq] at h; cases h
      | some z =>
        obtain ⟨t, n⟩ := z
        have := quo_le hq
        exact ⟨by simp only; omega, by simp, by simp⟩
    rw [if_neg h3] at h ⊢
    by_cases h4 : sgn (c :: r) = 0
    · rw [if_pos h4] at h; cases h
    · rw [if_neg h4]; exact ⟨by simp only; omega, by simp, by simp⟩
def nx (l : List UInt8) (i : Nat) : Nat × Nat × Nat × Nat :=
  if i + gapL false (l.drop i) = l.length then (0, l.length, l.length, 0)
  else if (tok (l.drop (i + gapL false (l.drop i)))).2.2 = 0 then ((tok (l.drop (i + gapL false (l.drop i)))).1, i + gapL false (l.drop i), i + gapL false (l.drop i) + (tok (l.drop (i + gapL false (l.drop i)))).2.1, 0)
  else (0, i + gapL false (l.drop i), 0, (tok (l.drop (i + gapL false (l.drop i)))).2.2)
def cast4 (x : Nat × Nat × Nat × Nat) : Int × Int × Int × Int := (x.1, x.2.1, x.2.2.1, x.2.2.2)
theorem nxt_nx (l : List UInt8) (i : Nat) : nxt l i = cast4 (nx l i) := by
  unfold nxt nx
  generalize i + gapL false (l.drop i) = g
  simp only
  by_cases h : g = l.length
  · rw [if_pos h, if_pos h, h]; rfl
  rw [if_neg h, if_neg h]
  unfold tokR
  by_cases h2 : (tok (l.drop g)).2.2 = 0
  · rw [if_pos h2, if_pos h2]; rfl
  · rw [if_neg h2, if_neg h2]; rfl
theorem nx_adv (l : List UInt8) (i : Nat) (hi : i ≤ l.length) (he : (nx l i).2.2.2 = 0) (hk : (nx l i).1 ≠ 0) :
    i < (nx l i).2.2.1 ∧ (nx l i).2.2.1 ≤ l.length := by
  unfold nx at *
  have hg := gapL_le (l.drop i) false
  rw [List.length_drop] at hg
  generalize hgg : i + gapL false (l.drop i) = g at *
  by_cases h : g = l.length
  · rw [if_pos h] at hk; exact absurd rfl hk
  rw [if_neg h] at he hk ⊢
  by_cases h2 : (tok (l.drop g)).2.2 = 0
  · rw [if_pos h2]
    have := tok_ok _ h2
    have h3 := tok_le (l.drop g)
    rw [List.length_drop] at h3
    simp only
    omega
  · rw [if_neg h2] at hk; exact absurd rfl hk
def just (l : List UInt8) (k : Nat) : Bool := decide (l ≠ []) && decide ((tok l).2.2 = 0) && decide ((tok l).1 = k) && decide ((tok l).2.1 = l.length)
theorem ljust (s : ByteArray) (hs : s.size ≤ 1048576) (m : Nat) : Ev (fun k => lex_just.f k s m) (just (L s) m) := by
  unfold lex_just.f just
  by_cases h : L s = []
  · exact Ev.ite_pos (by rw [toList_L, h]) (Ev.some_ (by rw [h]; simp))
  refine Ev.ite_neg (by rw [toList_L]; exact h) (Ev.bind (ltoken s hs h) ?_)
  rw [L_length]
  generalize tok (L s) = x
  obtain ⟨x1, x2, x3⟩ := x
  simp only [tokI]
  by_cases h1 : x3 = 0
  · refine Ev.ite_pos (by omega) ?_
    by_cases h2 : x1 = m
    · refine Ev.ite_pos (by omega) (Ev.some_ ?_)
      rw [decide_eq_true h, decide_eq_true h1, decide_eq_true h2, Bool.eq_iff_iff]
      simp
      omega
    · exact Ev.ite_neg (by omega) (Ev.some_ (by simp [h2]))
  · exact Ev.ite_neg (by omega) (Ev.some_ (by simp [h1]))
theorem tw_eq_all (p : UInt8 → Bool) (l : List UInt8) : (l.takeWhile p).length = l.length ↔ l.all p = true := by
  constructor
  · intro h
    have h1 := tw_take p l
    rw [h, List.take_length] at h1
    rw [h1]; exact tw_all p l
  · intro h
    induction l with
    | nil => rfl
    | cons c r ih =>
      rw [List.all_cons, Bool.and_eq_true] at h
      rw [List.takeWhile_cons, if_pos h.1, List.length_cons, List.length_cons, ih h.2]
def textR (l : List UInt8) : ByteArray × Int := match l with
  | [] => (⟨#[]⟩, 122)
  | c :: r => if c.toNat = 34 then (match quo r with
      | none => (⟨#[]⟩, 122)
      | some (t, n) => if n = (c :: r).length then (mkB t, 0) else (⟨#[]⟩, 122)) else (⟨#[]⟩, 122)
theorem ltext (s : ByteArray) (hs : s.size ≤ 1048576) : Ev (fun k => lex_Text.f k s) (textR (L s)) := by
  unfold lex_Text.f
  refine Ev.bind (lquoted s hs) ?_
  have hz := size_eq_L s
  unfold textR
  cases h : L s with
  | nil => exact Ev.ite_pos rfl (Ev.some_ rfl)
  | cons c r =>
    rw [h] at hz
    simp only
    by_cases hq : c.toNat = 34
    · rw [if_pos hq, if_pos hq]
      cases hx : quo r with
      | none => exact Ev.ite_pos rfl (Ev.some_ rfl)
      | some z =>
        obtain ⟨t, n⟩ := z
        have := quo_le hx
        simp only
        refine Ev.ite_neg (by omega) ?_
        by_cases hn : n = (c :: r).length
        · exact Ev.ite_pos (by omega) (Ev.some_ (by rw [if_pos hn]))
        · exact Ev.ite_neg (by omega) (Ev.some_ (by rw [if_neg hn]))
    · rw [if_neg hq, if_neg hq]
      exact Ev.ite_pos rfl (Ev.some_ rfl)
theorem rtext (s : ByteArray) (hs : s.size ≤ 1048576) : Ev (fun k => treadleref12_Text.f k s) (textR (L s)) := by
  unfold treadleref12_Text.f
  have hz := size_eq_L s
  have jt : ∀ b : Bool, b = true → Ev (fun k => treadleref12_Text.j0 k s b) (⟨#[]⟩, 122) := fun b hb =>
    Ev.step (fun k => treadleref12_Text.j0.eq_2 _ _ k) (Ev.ite_pos hb (Ev.some_ rfl))
  unfold textR
  cases h : L s with
  | nil => rw [h] at hz; exact Ev.ite_pos (by rw [hz]; rfl) (jt _ rfl)
  | cons c r =>
    rw [h] at hz
    have hpos : 0 < s.size := by rw [hz]; simp
    obtain ⟨hb0, hi0⟩ := bt_drop (i := 0) (s := s) (c := c) (r := r) (by simpa using h)
    have hb0 : bt s 0 = (c.toNat : Int) := hb0
    refine Ev.ite_neg (by omega) (Ev.ite_pos (by omega) ?_)
    rw [hb0]
    by_cases hq : c.toNat = 34
    · have e : ((c.toNat : Int) != 34) = false := by rw [bne_eq_false_iff_eq]; omega
      simp only
      rw [e, if_pos hq]
      refine Ev.step (fun k => treadleref12_Text.j0.eq_2 _ _ k) (Ev.ite_neg (by simp) ?_)
      refine Ev.bind (rquoted s hs 0 c r (by simpa using h)) ?_
      cases hx : quo r with
      | none => exact Ev.ite_neg (by simp only; omega) (Ev.some_ rfl)
      | some z =>
        obtain ⟨t, n⟩ := z
        simp only
        by_cases hn : n = (c :: r).length
        · exact Ev.ite_pos (by omega) (Ev.some_ (by rw [if_pos hn]))
        · exact Ev.ite_neg (by omega) (Ev.some_ (by rw [if_neg hn]))
    · have e : ((c.toNat : Int) != 34) = true := by rw [bne_iff_ne]; omega
      simp only
      rw [if_neg hq]
      exact jt _ e
def nameOk (l : List UInt8) : Bool := match l with
  | [] => false
  | c :: r => decide ((c :: r).length ≤ 32) && isL c && (c :: r).all isW
theorem just_word (l : List UInt8) : just l 1 = (nameOk l && !decide (l ∈ keyTexts)) := by
  cases l with
  | nil => simp [just, nameOk]
  | cons c r =>
    unfold just
    have hN : nameOk (c :: r) = (decide ((c :: r).length ≤ 32) && isL c && (c :: r).all isW) := rfl
    rw [hN]
    show (decide (c :: r ≠ []) && decide ((tokC c r).2.2 = 0) && decide ((tokC c r).1 = 1) && decide ((tokC c r).2.1 = (c :: r).length)) = _
    have hne : decide (c :: r ≠ []) = true := by simp
    rw [hne, Bool.true_and]
    by_cases h1 : isL c = true
    · unfold tokC
      rw [if_pos h1]
      by_cases ha : (c :: r).all isW = true
      · have hn := (tw_eq_all isW (c :: r)).mpr ha
        rw [hn, List.take_length]
        simp only [h1, ha, Bool.and_true]
        by_cases h32 : 32 < (c :: r).length
        · rw [if_pos h32, decide_eq_false (by omega : ¬ (c :: r).length ≤ 32)]; simp
        · rw [if_neg h32, decide_eq_true (by omega : (c :: r).length ≤ 32)]
          by_cases hk : (c :: r) ∈ keyTexts
          · rw [if_pos hk, decide_eq_true hk]; simp
          · rw [if_neg hk, decide_eq_false hk]; simp
      · have hn : ¬ ((c :: r).takeWhile isW).length = (c :: r).length := fun e => ha ((tw_eq_all isW (c :: r)).mp e)
        simp only [Bool.not_eq_true] at ha
        rw [ha, Bool.and_false, Bool.false_and]
        generalize ((c :: r).takeWhile isW).length = n at *
        split
        · simp
        · split
          · simp
          · rw [decide_eq_false hn]; simp
    · have : ¬ (tokC c r).1 = 1 := by
        unfold tokC
        rw [if_neg h1]
        split
        · split <;> simp
        · split
          · cases quo r with
            | none => simp
            | some z => obtain ⟨t, n⟩ := z; simp
          · split <;> simp
      rw [decide_eq_false this]
      simp only [Bool.not_eq_true] at h1
      rw [h1]; simp
theorem lword (s : ByteArray) (hs : s.size ≤ 1048576) : Ev (fun k => lex_Word.f k s) (nameOk (L s) && !decide (L s ∈ keyTexts)) := by
  unfold lex_Word.f
  have hj := ljust s hs 1
  rw [just_word] at hj
  exact Ev.bind hj (Ev.some_ rfl)
theorem rname_loop (s : ByteArray) (hs : s.size ≤ 1048576) : ∀ (r : List UInt8) (i : Nat), (L s).drop i = r → Ev (fun k => treadleref12_name.l0 k s i) (r.all isW)
  | [], i, h => by
    have := drop_none h; rw [L_length] at this
    exact Ev.step (fun k => treadleref12_name.l0.eq_2 _ _ k) (Ev.ite_neg (by omega) (Ev.some_ rfl))
  | c :: r, i, h => by
    obtain ⟨hb, hi⟩ := bt_drop h
    have ih := rname_loop s hs r (i + 1) (drop_some h).2.2
    refine Ev.step (fun k => treadleref12_name.l0.eq_2 _ _ k) (Ev.ite_pos (by omega) (Ev.ite_pos (by omega) ?_))
    rw [hb, wrap_succ (by omega), List.all_cons]
    refine Ev.bind_now (rletter c) ?_
    by_cases h1 : isL c = true
    · refine Ev.ite_pos h1 (ih.eq ?_)
      unfold isW; rw [h1]; rfl
    refine Ev.ite_neg h1 (Ev.bind_now (rdigit c) ?_)
    by_cases h2 : isD c = true
    · refine Ev.ite_pos h2 (ih.eq ?_)
      have : isW c = true := by unfold isW; rw [h2]; simp
      rw [this]; rfl
    · refine Ev.ite_neg h2 (Ev.some_ ?_)
      have : isW c = false := by unfold isW; simp [h1, h2]
      rw [this]; rfl
theorem rname (s : ByteArray) (hs : s.size ≤ 1048576) : Ev (fun k => treadleref12_name.f k s) (nameOk (L s)) := by
  unfold treadleref12_name.f nameOk
  have hz := size_eq_L s
  have jt : ∀ b : Bool, b = true → Ev (fun k => treadleref12_name.j0 k s b) false := fun b hb =>
    Ev.step (fun k => treadleref12_name.j0.eq_2 _ _ k) (Ev.ite_pos hb (Ev.some_ rfl))
  cases h : L s with
  | nil => rw [h] at hz; exact Ev.ite_pos (by rw [hz]; rfl) (jt _ rfl)
  | cons c r =>
    rw [h] at hz
    have hpos : 0 < s.size := by rw [hz]; simp
    obtain ⟨hb0, hi0⟩ := bt_drop (i := 0) (s := s) (c := c) (r := r) (by simpa using h)
    have hb0 : bt s 0 = (c.toNat : Int) := hb0
    refine Ev.ite_neg (by omega) ?_
    simp only
    by_cases h32 : (c :: r).length ≤ 32
    · refine Ev.ite_neg (by omega) (Ev.ite_pos (by omega) ?_)
      rw [hb0, decide_eq_true h32]
      refine Ev.bind_now (rletter c) ?_
      cases h1 : isL c with
      | false => exact (jt _ rfl).eq (by simp)
      | true =>
        refine Ev.step (fun k => treadleref12_name.j0.eq_2 _ _ k) (Ev.ite_neg (by simp) ?_)
        exact (rname_loop s hs (c :: r) 0 (by simpa using h)).eq (by simp)
    · rw [decide_eq_false h32]
      exact Ev.ite_pos (by omega) (jt _ rfl)
theorem rword (s : ByteArray) (hs : s.size ≤ 1048576) : Ev (fun k => treadleref12_Word.f k s) (nameOk (L s) && !decide (L s ∈ keyTexts)) := by
  unfold treadleref12_Word.f
  refine Ev.bind (rname s hs) ?_
  cases nameOk (L s) with
  | false => exact Ev.ite_neg (by simp) (Ev.some_ rfl)
  | true => exact Ev.ite_pos rfl (Ev.bind (rkey s) (Ev.some_ rfl))
def hx (n : Nat) : UInt8 := UInt8.ofNat (if n < 10 then 48 + n else 87 + n)
abbrev hexB : ByteArray := ⟨#[48, 49, 50, 51, 52, 53, 54, 55, 56, 57, 97, 98, 99, 100, 101, 102]⟩
def enc (c : UInt8) : List UInt8 :=
  if c.toNat = 10 then [92, 110] else if c.toNat = 9 then [92, 116] else if c.toNat = 34 ∨ c.toNat = 92 then [92, c]
  else if c.toNat < 32 ∨ 126 < c.toNat then [92, 120, hx (c.toNat / 16), hx (c.toNat % 16)] else [c]
theorem enc_len (c : UInt8) : 1 ≤ (enc c).length ∧ (enc c).length ≤ 4 := by
  unfold enc; split
  · decide
  · split
    · decide
    · split
      · simp
      · split <;> simp
theorem and15 (c : UInt8) : Go.bits .and .u8 (c.toNat : Int) 15 = ((c.toNat % 16 : Nat) : Int) := by
  simpa using byte_all (p := fun c => decide (Go.bits .and .u8 (c.toNat : Int) 15 = ((c.toNat % 16 : Nat) : Int))) (by decide +kernel) c
theorem hexAt : ∀ n : Fin 16, bt hexB (n.val : Int) = ((hx n.val).toNat : Int) := by decide +kernel
def quoteR (s : ByteArray) : ByteArray × Int := if s.size > 4096 then (⟨#[]⟩, 3) else (mkB (34 :: ((L s).flatMap enc ++ [34])), 0)
theorem nums_app (A B : List UInt8) : nums A ++ nums B = nums (A ++ B) := by unfold nums; simp
theorem nums_len (A : List UInt8) : (nums A).length = A.length := by unfold nums; simp
theorem quo_snoc {A : List UInt8} {i : Nat} {c : UInt8} (hA : A.length ≤ 1 + 4 * i) : (A ++ enc c).length ≤ 1 + 4 * (i + 1) := by
  have := (enc_len c).2
  rw [List.length_append]; omega
theorem lquote_loop (s : ByteArray) (hs : s.size ≤ 4096) : ∀ (r : List UInt8) (i : Nat) (A : List UInt8), (L s).drop i = r → A.length ≤ 1 + 4 * i → i ≤ s.size →
    Ev (fun k => lex_Quote.l0 k s (nums A) s.size i) (mkB (A ++ (r.flatMap enc ++ [34])), 0)
  | [], i, A, h, hA, hi => by
    have := drop_none h; rw [L_length] at this
    refine Ev.step (fun k => lex_Quote.l0.eq_2 _ _ _ _ k) (Ev.ite_neg (by omega) (Ev.ite_pos (by rw [nums_len]; omega) (Ev.some_ ?_)))
    have e : nums A ++ [34] = nums (A ++ [34]) := by rw [← nums_app]; rfl
    rw [e, strOfNums_nums]; rfl
  | c :: r, i, A, h, hA, hi => by
    obtain ⟨hb, hi'⟩ := bt_drop h
    have ih := lquote_loop s hs r (i + 1) (A ++ enc c) (drop_some h).2.2 (quo_snoc hA) (by omega)
    have hres : A ++ enc c ++ (r.flatMap enc ++ [34]) = A ++ ((c :: r).flatMap enc ++ [34]) := by simp
    rw [hres] at ih
    have hAl : A.length ≤ 20000 := by omega
    have hgo : ∀ ys : List Int, ys = nums (enc c) → Ev (fun k => (some (ys : List Int)).bind fun y => if (nums A).length + y.length < 140737488355328 then lex_Quote.l0 k s (nums A ++ y) s.size (wrap64 ((i : Int) + 1)) else none) (mkB (A ++ ((c :: r).flatMap enc ++ [34])), 0) := fun ys hy => by
      have hel := (enc_len c).2
      refine Ev.bind_now rfl (Ev.ite_pos (by rw [hy, nums_len, nums_len]; omega) ?_)
      rw [hy, nums_app, wrap_succ (by omega)]; exact ih
    refine Ev.step (fun k => lex_Quote.l0.eq_2 _ _ _ _ k) (Ev.ite_pos (by omega) (Ev.ite_pos (by omega) (Ev.ite_pos (by omega) ?_)))
    rw [hb]
    by_cases h1 : c.toNat = 10
    · exact Ev.ite_pos (by omega) (hgo _ (by unfold enc; rw [if_pos h1]; rfl))
    refine Ev.ite_neg (by omega) ?_
    by_cases h2 : c.toNat = 9
    · exact Ev.ite_pos (by omega) (hgo _ (by unfold enc; rw [if_neg h1, if_pos h2]; rfl))
    refine Ev.ite_neg (by omega) ?_
    have hj : ∀ b : Bool, b = decide (c.toNat = 34 ∨ c.toNat = 92) → Ev (fun k => lex_Quote.j1 k s (nums A) (c.toNat : Int) s.size i b) (mkB (A ++ ((c :: r).flatMap enc ++ [34])), 0) := fun b hb' => by
      refine Ev.step (fun k => lex_Quote.j1.eq_2 _ _ _ _ _ _ k) ?_
      by_cases h3 : c.toNat = 34 ∨ c.toNat = 92
      · exact Ev.ite_pos (by rw [hb']; exact decide_eq_true h3) (hgo _ (by unfold enc; rw [if_neg h1, if_neg h2, if_pos h3]; rfl))
      refine Ev.ite_neg (by rw [hb', decide_eq_false h3]; simp) ?_
      have hq1 : (c.toNat : Int) / 16 = ((c.toNat / 16 : Nat) : Int) := by omega
      have hc256 := c.toNat_lt
      have hx1 := hexAt ⟨c.toNat / 16, by omega⟩
      have hx2 := hexAt ⟨c.toNat % 16, by omega⟩
      simp only at hx1 hx2
      by_cases h4 : c.toNat < 32
      · refine Ev.ite_pos (by omega) ?_
        rw [and15, hq1, hx1, hx2]
        refine Ev.ite_pos (by omega) (Ev.ite_pos (by omega) (Ev.ite_pos (by omega) (Ev.ite_pos (by omega) (hgo _ ?_))))
        unfold enc; rw [if_neg h1, if_neg h2, if_neg h3, if_pos (Or.inl h4)]; rfl
      refine Ev.ite_neg (by omega) ?_
      by_cases h5 : 126 < c.toNat
      · refine Ev.ite_pos (by omega) ?_
        rw [and15, hq1, hx1, hx2]
        refine Ev.ite_pos (by omega) (Ev.ite_pos (by omega) (Ev.ite_pos (by omega) (Ev.ite_pos (by omega) (hgo _ ?_))))
        unfold enc; rw [if_neg h1, if_neg h2, if_neg h3, if_pos (Or.inr h5)]; rfl
      refine Ev.ite_neg (by omega) (Ev.ite_pos (by rw [nums_len]; omega) ?_)
      have e : enc c = [c] := by unfold enc; rw [if_neg h1, if_neg h2, if_neg h3, if_neg (by omega)]
      have e2 : nums A ++ [(c.toNat : Int)] = nums (A ++ enc c) := by rw [e, ← nums_app]; rfl
      rw [e2, wrap_succ (by omega)]; exact ih
    by_cases h3 : c.toNat = 34
    · exact Ev.ite_pos (by omega) (hj _ (by simp [h3]))
    · refine Ev.ite_neg (by omega) (hj _ ?_)
      rw [Bool.eq_iff_iff]; simp [h3]; omega
theorem lquote (s : ByteArray) (hs : s.size ≤ 1048576) : Ev (fun k => lex_Quote.f k s) (quoteR s) := by
  unfold lex_Quote.f quoteR
  by_cases h : s.size > 4096
  · exact Ev.ite_pos (by omega) (Ev.some_ (by rw [if_pos h]))
  · rw [if_neg h]
    exact Ev.ite_neg (by omega) (lquote_loop s (by omega) (L s) 0 [34] rfl (by simp) (by omega))
theorem hx_nib : ∀ n : Fin 16, nib (hx n.val) = some n.val := by decide +kernel
theorem pc_enc (c : UInt8) (l : List UInt8) : pc (enc c ++ l) = some (c, (enc c).length) ∧ ∃ d t, enc c ++ l = d :: t ∧ d.toNat ≠ 34 := by
  have hc256 := c.toNat_lt
  have e92 : (92 : UInt8).toNat = 92 := rfl
  unfold enc
  by_cases h1 : c.toNat = 10
  · rw [if_pos h1]
    have : c = 10 := by rw [← UInt8.toNat_inj]; exact h1
    subst this
    exact ⟨rfl, _, _, rfl, by decide⟩
  rw [if_neg h1]
  by_cases h2 : c.toNat = 9
  · rw [if_pos h2]
    have : c = 9 := by rw [← UInt8.toNat_inj]; exact h2
    subst this
    exact ⟨rfl, _, _, rfl, by decide⟩
  rw [if_neg h2]
  by_cases h3 : c.toNat = 34 ∨ c.toNat = 92
  · rw [if_pos h3]
    refine ⟨?_, _, _, rfl, by decide⟩
    show pc (92 :: c :: l) = _
    simp only [pc]
    rw [if_pos e92, if_neg (by omega), if_neg (by omega), if_pos h3]; rfl
  rw [if_neg h3]
  by_cases h4 : c.toNat < 32 ∨ 126 < c.toNat
  · rw [if_pos h4]
    refine ⟨?_, _, _, rfl, by decide⟩
    show pc (92 :: 120 :: hx (c.toNat / 16) :: hx (c.toNat % 16) :: l) = _
    have e120 : (120 : UInt8).toNat = 120 := rfl
    have hx1 := hx_nib ⟨c.toNat / 16, by omega⟩
    have hx2 := hx_nib ⟨c.toNat % 16, by omega⟩
    simp only at hx1 hx2
    simp only [pc]
    rw [if_pos e92, e120]
    simp only [hx1, hx2]
    simp only [Nat.reduceEqDiff, if_false, if_true, or_self, or_false]
    have : 16 * (c.toNat / 16) + c.toNat % 16 = c.toNat := by omega
    rw [this]; simp
  · rw [if_neg h4]
    refine ⟨?_, _, _, rfl, by omega⟩
    show pc (c :: l) = _
    simp only [pc]
    rw [if_neg (by omega), if_neg (by omega)]; rfl
theorem ql_enc : ∀ (t : List UInt8) (f : Nat), (t.flatMap enc).length + 1 < f → ql f (t.flatMap enc ++ [34]) = some (t, (t.flatMap enc).length + 1)
  | [], f, h => by
    cases f with
    | zero => omega
    | succ f => rfl
  | c :: t, f, h => by
    cases f with
    | zero => omega
    | succ f =>
      have hl := enc_len c
      have e : (c :: t).flatMap enc ++ [34] = enc c ++ (t.flatMap enc ++ [34]) := by simp
      have e2 : ((c :: t).flatMap enc).length = (enc c).length + (t.flatMap enc).length := by simp
      obtain ⟨hp, d, u, hd, hq⟩ := pc_enc c (t.flatMap enc ++ [34])
      rw [e, e2]
      rw [e2] at h
      have hdrop : (enc c ++ (t.flatMap enc ++ [34])).drop (enc c).length = t.flatMap enc ++ [34] := List.drop_left
      have ih := ql_enc t f (by omega)
      rw [hd] at hp hdrop ⊢
      unfold ql
      rw [if_neg hq, hp]
      simp only
      rw [hdrop, ih]
      simp only
      rw [Nat.add_assoc]
theorem text_quote (t : List UInt8) (ht : t.length ≤ 4096) : textR (34 :: (t.flatMap enc ++ [34])) = (mkB t, 0) := by
  have hq : quo (t.flatMap enc ++ [34]) = some (t, (t.flatMap enc).length + 1 + 1) := by
    unfold quo
    rw [ql_enc t _ (by rw [List.length_append]; simp)]
    simp only
    rw [if_pos ht]
  unfold textR
  simp only
  rw [if_pos (by decide), hq]
  simp only
  rw [if_pos (by simp)]
theorem tw_cut (p : UInt8 → Bool) : ∀ (l : List UInt8) (m : Nat), (l.takeWhile p).length ≤ m → (l.take m).takeWhile p = l.takeWhile p
  | [], m, _ => by simp
  | c :: r, 0, h => by
    rw [List.takeWhile_cons] at h ⊢
    cases hc : p c with
    | true => rw [hc] at h; simp at h
    | false => simp
  | c :: r, m + 1, h => by
    rw [List.take_succ_cons, List.takeWhile_cons, List.takeWhile_cons]
    rw [List.takeWhile_cons] at h
    cases hc : p c with
    | true =>
      rw [hc] at h
      simp only [if_true, List.length_cons] at h
      rw [if_pos rfl, if_pos rfl, tw_cut p r m (by omega)]
    | false => rfl
theorem pc_cut {l : List UInt8} {b : UInt8} {n m : Nat} (h : pc l = some (b, n)) (hm : n ≤ m) : pc (l.take m) = some (b, n) := by
  cases l with
  | nil => cases h
  | cons c r =>
    have hp := (pc_pos h).1
    obtain ⟨m, rfl⟩ : ∃ m', m = m' + 1 := ⟨m - 1, by omega⟩
    rw [List.take_succ_cons]
    simp only [pc] at h ⊢
    by_cases h1 : c.toNat = 92
    · rw [if_pos h1] at h ⊢
      cases r with
      | nil => cases h
      | cons d r =>
        simp only at h
        by_cases d1 : d.toNat = 110
        · rw [if_pos d1] at h
          have h0 := h
          injection h with h'; injection h' with _ h3
          obtain ⟨m, rfl⟩ : ∃ m', m = m' + 1 := ⟨m - 1, by omega⟩
          rw [List.take_succ_cons]; simp only; rw [if_pos d1]; exact h0
        rw [if_neg d1] at h
        by_cases d2 : d.toNat = 116
        · rw [if_pos d2] at h
          have h0 := h
          injection h with h'; injection h' with _ h3
          obtain ⟨m, rfl⟩ : ∃ m', m = m' + 1 := ⟨m - 1, by omega⟩
          rw [List.take_succ_cons]; simp only; rw [if_neg d1, if_pos d2]; exact h0
        rw [if_neg d2] at h
        by_cases d3 : d.toNat = 34 ∨ d.toNat = 92
        · rw [if_pos d3] at h
          have h0 := h
          injection h with h'; injection h' with _ h3
          obtain ⟨m, rfl⟩ : ∃ m', m = m' + 1 := ⟨m - 1, by omega⟩
          rw [List.take_succ_cons]; simp only; rw [if_neg d1, if_neg d2, if_pos d3]; exact h0
        rw [if_neg d3] at h
        by_cases d4 : d.toNat = 120
        · rw [if_pos d4] at h
          match r, h with
          | [], h => cases h
          | [a], h => cases h
          | a :: b' :: r, h =>
            have h0 := h
            simp only at h
            split at h
            · injection h with h'; injection h' with _ h3
              obtain ⟨m, rfl⟩ : ∃ m', m = m' + 3 := ⟨m - 3, by omega⟩
              rw [List.take_succ_cons, List.take_succ_cons, List.take_succ_cons]
              simp only
              rw [if_neg d1, if_neg d2, if_neg d3, if_pos d4]; exact h0
            · cases h
        · rw [if_neg d4] at h; cases h
    · rw [if_neg h1] at h ⊢; exact h
theorem ql_cut : ∀ (f : Nat) (l t : List UInt8) (q m : Nat), ql f l = some (t, q) → q ≤ m → ql f (l.take m) = some (t, q)
  | 0, l, t, q, m, h, _ => by cases h
  | f + 1, [], t, q, m, h, _ => by cases h
  | f + 1, c :: r, t, q, m, h, hm => by
    have hq := ql_le _ _ _ _ h
    obtain ⟨m, rfl⟩ : ∃ m', m = m' + 1 := ⟨m - 1, by omega⟩
    rw [List.take_succ_cons]
    unfold ql at h ⊢
    by_cases h1 : c.toNat = 34
    · rw [if_pos h1] at h ⊢; exact h
    rw [if_neg h1] at h ⊢
    cases hp : pc (c :: r) with
    | none => rw [hp] at h; cases h
    | some z =>
      obtain ⟨b, n⟩ := z
      rw [hp] at h
      simp only at h
      cases hx : ql f ((c :: r).drop n) with
      | none => rw [hx] at h; cases h
      | some z =>
        obtain ⟨t', q'⟩ := z
        rw [hx] at h
        simp only at h
        injection h with h'; injection h' with h1' h2'
        have hp' := pc_cut (m := m + 1) hp (by omega)
        rw [List.take_succ_cons] at hp'
        rw [hp']
        simp only
        have ih := ql_cut f _ t' q' (m + 1 - n) hx (by omega)
        have e : (c :: r.take m).drop n = ((c :: r).drop n).take (m + 1 - n) := by
          rw [← List.take_succ_cons, List.drop_take]
        rw [e, ih]
        simp only
        rw [h1', h2']
theorem quo_cut {r t : List UInt8} {n m : Nat} (h : quo r = some (t, n)) (hm : n ≤ m + 1) : quo (r.take m) = some (t, n) := by
  unfold quo at h ⊢
  cases hx : ql (r.length + 1) r with
  | none => rw [hx] at h; cases h
  | some z =>
    obtain ⟨t', q⟩ := z
    rw [hx] at h
    simp only at h
    split at h
    · rename_i hle
      injection h with h'; injection h' with h1 h2
      have hc := ql_cut _ _ _ _ m hx (by omega)
      rw [ql_fuel (r.length + 1) ((r.take m).length + 1) (r.take m) (by rw [List.length_take]; omega) (by omega)] at hc
      rw [hc]
      simp only
      rw [if_pos hle, h1, h2]
    · cases h
theorem tok_cut (l : List UInt8) (m : Nat) (h : (tok l).2.2 = 0) (hm : (tok l).2.1 ≤ m) : tok (l.take m) = tok l := by
  have hpos := (tok_ok l h).1
  cases l with
  | nil => cases h
  | cons c r =>
    obtain ⟨m, rfl⟩ : ∃ m', m = m' + 1 := ⟨m - 1, by omega⟩
    rw [List.take_succ_cons]
    show tokC c (r.take m) = tokC c r
    change (tokC c r).2.2 = 0 at h
    change (tokC c r).2.1 ≤ m + 1 at hm
    have et : c :: r.take m = (c :: r).take (m + 1) := by rw [List.take_succ_cons]
    unfold tokC at h hm ⊢
    rw [et]
    by_cases h1 : isL c = true
    · rw [if_pos h1] at h hm ⊢
      rw [if_pos h1]
      have hle : ((c :: r).takeWhile isW).length ≤ m + 1 := by
        by_cases h2 : 32 < ((c :: r).takeWhile isW).length
        · rw [if_pos h2] at h; cases h
        rw [if_neg h2] at hm
        split at hm <;> exact hm
      rw [tw_cut isW _ _ hle, List.take_take, Nat.min_eq_left hle]
    rw [if_neg h1] at h hm ⊢
    rw [if_neg h1]
    by_cases h2 : isD c = true
    · rw [if_pos h2] at h hm ⊢
      rw [if_pos h2]
      by_cases h3 : (numOk ((c :: r).take ((c :: r).takeWhile isD).length) && !headL ((c :: r).drop ((c :: r).takeWhile isD).length)) = true
      · rw [if_pos h3] at hm ⊢
        simp only at hm
        rw [tw_cut isD _ _ hm, List.take_take, Nat.min_eq_left hm]
        generalize ((c :: r).takeWhile isD).length = n at *
        rw [Bool.and_eq_true] at h3
        have hh : headL (((c :: r).take (m + 1)).drop n) = false := by
          rw [List.drop_take]
          have h4 := h3.2
          cases hd : (c :: r).drop n with
          | nil => simp [headL]
          | cons d u =>
            rw [hd] at h4
            simp only [headL, Bool.not_eq_true'] at h4
            cases m + 1 - n with
            | zero => simp [headL]
            | succ q => rw [List.take_succ_cons]; simp only [headL]; exact h4
        rw [hh, h3.1]; rfl
      · rw [if_neg h3] at h; cases h
    rw [if_neg h2] at h hm ⊢
    rw [if_neg h2]
    by_cases h3 : c.toNat = 34
    · rw [if_pos h3] at h hm ⊢
      rw [if_pos h3]
      cases hq : quo r with
      | none => rw [hq] at h; cases h
      | some z =>
        obtain ⟨t, n⟩ := z
        rw [hq] at hm
        rw [quo_cut hq hm]
    rw [if_neg h3] at h hm ⊢
    rw [if_neg h3]
    by_cases h4 : sgn (c :: r) = 0
    · rw [if_pos h4] at h; cases h
    rw [if_neg h4] at hm ⊢
    have e : sgn ((c :: r).take (m + 1)) = sgn (c :: r) := by
      simp only at hm
      unfold sgn at hm h4 ⊢
      by_cases ht : (c :: r).take 2 ∈ twoSigns
      · rw [if_pos ht] at hm ⊢
        rw [List.take_take, Nat.min_eq_left hm, if_pos ht]
      · rw [if_neg ht] at hm h4 ⊢
        have ht2 : ¬ ((c :: r).take (m + 1)).take 2 ∈ twoSigns := by
          rw [List.take_take]
          intro hx
          have := two_len _ hx
          rw [List.length_take] at this
          have hmin : min 2 (m + 1) = 2 := by omega
          rw [hmin] at hx; exact ht hx
        rw [if_neg ht2, List.take_succ_cons]
    rw [e, if_neg h4]
theorem nx_from (l : List UInt8) (i : Nat) : (nx l i).2.1 = i + gapL false (l.drop i) := by
  unfold nx
  split
  · rename_i h; exact h.symm
  · split <;> rfl
theorem nx_end (l : List UInt8) (i : Nat) (he : (nx l i).2.2.2 = 0) (hk : (nx l i).1 = 0) : (nx l i).2.1 = l.length ∧ (nx l i).2.2.1 = l.length := by
  unfold nx at *
  by_cases h : i + gapL false (l.drop i) = l.length
  · rw [if_pos h]; exact ⟨rfl, rfl⟩
  rw [if_neg h] at he hk
  by_cases h2 : (tok (l.drop (i + gapL false (l.drop i)))).2.2 = 0
  · rw [if_pos h2] at hk
    have := (tok_ok _ h2).2.1
    simp only at hk; omega
  · rw [if_neg h2] at he; exact absurd he h2
theorem nx_tok (l : List UInt8) (i : Nat) (he : (nx l i).2.2.2 = 0) (hk : (nx l i).1 ≠ 0) :
    gapL false (l.drop (nx l i).2.1) = 0 ∧ (nx l i).2.1 < (nx l i).2.2.1 ∧ tok (l.drop (nx l i).2.1) = ((nx l i).1, (nx l i).2.2.1 - (nx l i).2.1, 0) := by
  have hga := gapL_after (l.drop i) false
  rw [List.drop_drop] at hga
  unfold nx at *
  generalize i + gapL false (l.drop i) = g at *
  by_cases h : g = l.length
  · rw [if_pos h] at hk; exact absurd rfl hk
  rw [if_neg h] at he hk ⊢
  by_cases h2 : (tok (l.drop g)).2.2 = 0
  · rw [if_pos h2]
    have h3 := (tok_ok _ h2).1
    refine ⟨hga, by simp only; omega, ?_⟩
    simp only
    generalize tok (l.drop g) = z at *
    obtain ⟨z1, z2, z3⟩ := z
    simp only at h2 h3 ⊢
    subst h2
    simp
  · rw [if_neg h2] at he; exact absurd he h2
def Blank (u : List UInt8) : Prop := u = [] ∨ ∃ t, u = 32 :: t
theorem blank_tw (p : UInt8 → Bool) (hp : p 32 = false) (u : List UInt8) (hu : Blank u) : u.takeWhile p = [] := by
  rcases hu with rfl | ⟨t, rfl⟩
  · rfl
  · rw [List.takeWhile_cons, hp]; rfl
theorem tw_ext (p : UInt8 → Bool) (hp : p 32 = false) (u : List UInt8) (hu : Blank u) : ∀ l : List UInt8, l.all p = true → (l ++ u).takeWhile p = l
  | [], _ => blank_tw p hp u hu
  | c :: r, h => by
    rw [List.all_cons, Bool.and_eq_true] at h
    rw [List.cons_append, List.takeWhile_cons, if_pos h.1, tw_ext p hp u hu r h.2]
theorem pc_ext {l u : List UInt8} {b : UInt8} {n : Nat} (h : pc l = some (b, n)) : pc (l ++ u) = some (b, n) := by
  cases l with
  | nil => cases h
  | cons c r =>
    rw [List.cons_append]
    simp only [pc] at h ⊢
    by_cases h1 : c.toNat = 92
    · rw [if_pos h1] at h ⊢
      cases r with
      | nil => cases h
      | cons d r =>
        simp only at h
        rw [List.cons_append]
        simp only
        by_cases d1 : d.toNat = 110
        · rw [if_pos d1] at h ⊢; exact h
        rw [if_neg d1] at h ⊢
        by_cases d2 : d.toNat = 116
        · rw [if_pos d2] at h ⊢; exact h
        rw [if_neg d2] at h ⊢
        by_cases d3 : d.toNat = 34 ∨ d.toNat = 92
        · rw [if_pos d3] at h ⊢; exact h
        rw [if_neg d3] at h ⊢
        by_cases d4 : d.toNat = 120
        · rw [if_pos d4] at h ⊢
          match r, h with
          | [], h => cases h
          | [a], h => cases h
          | a :: b' :: r, h => exact h
        · rw [if_neg d4] at h; cases h
    · rw [if_neg h1] at h ⊢; exact h
theorem ql_ext : ∀ (f : Nat) (l u t : List UInt8) (q : Nat), ql f l = some (t, q) → ql f (l ++ u) = some (t, q)
  | 0, l, u, t, q, h => by cases h
  | f + 1, [], u, t, q, h => by cases h
  | f + 1, c :: r, u, t, q, h => by
    rw [List.cons_append]
    unfold ql at h ⊢
    by_cases h1 : c.toNat = 34
    · rw [if_pos h1] at h ⊢; exact h
    rw [if_neg h1] at h ⊢
    cases hp : pc (c :: r) with
    | none => rw [hp] at h; cases h
    | some z =>
      obtain ⟨b, n⟩ := z
      have hn := (pc_pos hp).2
      rw [hp] at h
      simp only at h
      cases hx : ql f ((c :: r).drop n) with
      | none => rw [hx] at h; cases h
      | some z =>
        obtain ⟨t', q'⟩ := z
        rw [hx] at h
        have hp' := pc_ext (u := u) hp
        rw [List.cons_append] at hp'
        rw [hp']
        simp only
        have e : (c :: (r ++ u)).drop n = (c :: r).drop n ++ u := by rw [← List.cons_append, List.drop_append_of_le_length hn]
        rw [e, ql_ext f _ u t' q' hx]
        exact h
theorem quo_ext {r t u : List UInt8} {n : Nat} (h : quo r = some (t, n)) : quo (r ++ u) = some (t, n) := by
  unfold quo at h ⊢
  cases hx : ql (r.length + 1) r with
  | none => rw [hx] at h; cases h
  | some z =>
    obtain ⟨t', q⟩ := z
    rw [hx] at h
    have h1 := ql_ext _ r u t' q (show ql ((r ++ u).length + 1) r = some (t', q) by rw [← hx]; exact ql_fuel _ _ r (by rw [List.length_append]; omega) (by omega))
    rw [h1]; exact h
theorem sgn_two : ∀ c : UInt8, [c, 32] ∉ twoSigns := by
  intro c h
  unfold twoSigns at h
  simp at h
theorem sgn_ext (l u : List UInt8) (h : sgn l ≠ 0) (hu : Blank u) (hl : l ≠ []) : sgn (l.take (sgn l) ++ u) = sgn l := by
  cases l with
  | nil => exact absurd rfl hl
  | cons c r =>
    by_cases ht : (c :: r).take 2 ∈ twoSigns
    · have e : sgn (c :: r) = 2 := by unfold sgn; rw [if_pos ht]
      have h2 := two_len _ ht
      rw [e]
      have e3 : ((c :: r).take 2 ++ u).take 2 = (c :: r).take 2 := by rw [List.take_append_of_le_length (by omega), List.take_take]; rfl
      unfold sgn
      rw [e3, if_pos ht]
    · have e : sgn (c :: r) = 1 := by
        unfold sgn at h ⊢
        rw [if_neg ht] at h ⊢
        simp only at h ⊢
        split
        · rfl
        · rename_i hx; rw [if_neg hx] at h; exact absurd rfl h
      have hc : c ∈ oneSigns := by
        unfold sgn at e
        rw [if_neg ht] at e
        simp only at e
        split at e
        · assumption
        · cases e
      rw [e]
      show sgn (c :: ([] ++ u)) = 1
      rw [List.nil_append]
      unfold sgn
      have h2 : ¬ (c :: u).take 2 ∈ twoSigns := by
        rcases hu with rfl | ⟨t, rfl⟩
        · intro hx; have := two_len _ hx; simp at this
        · exact sgn_two c
      rw [if_neg h2]
      simp only
      rw [if_pos hc]
theorem tok_ext (l u : List UInt8) (h : (tok l).2.2 = 0) (hu : Blank u) : tok (l.take (tok l).2.1 ++ u) = tok l := by
  have hpos := (tok_ok l h).1
  have hle := tok_le l
  cases l with
  | nil => cases h
  | cons c r =>
    change (tokC c r).2.2 = 0 at h
    change 1 ≤ (tokC c r).2.1 at hpos
    show tok ((c :: r).take (tokC c r).2.1 ++ u) = tokC c r
    obtain ⟨m, hm⟩ : ∃ m, (tokC c r).2.1 = m + 1 := ⟨(tokC c r).2.1 - 1, by omega⟩
    have hw32 : isW 32 = false := by decide
    have hd32 : isD 32 = false := by decide
    rw [hm, List.take_succ_cons, List.cons_append]
    show tokC c (r.take m ++ u) = tokC c r
    have et : c :: (r.take m ++ u) = (c :: r).take (m + 1) ++ u := by rw [List.take_succ_cons, List.cons_append]
    unfold tokC at h hm ⊢
    rw [et]
    by_cases h1 : isL c = true
    · rw [if_pos h1] at h hm ⊢
      rw [if_pos h1]
      have hn : ((c :: r).takeWhile isW).length = m + 1 := by
        by_cases h2 : 32 < ((c :: r).takeWhile isW).length
        · rw [if_pos h2] at h; cases h
        rw [if_neg h2] at hm
        split at hm <;> exact hm
      have htk := tw_take isW (c :: r)
      rw [hn] at htk
      have hext := tw_ext isW hw32 u hu ((c :: r).take (m + 1)) (by rw [htk]; exact tw_all isW _)
      have hlen : ((c :: r).take (m + 1)).length = m + 1 := by rw [htk]; exact hn
      rw [hext, hlen, hn, List.take_append_of_le_length (by omega), List.take_take, Nat.min_self]
    rw [if_neg h1] at h hm ⊢
    rw [if_neg h1]
    by_cases h2 : isD c = true
    · rw [if_pos h2] at h hm ⊢
      rw [if_pos h2]
      by_cases h3 : (numOk ((c :: r).take ((c :: r).takeWhile isD).length) && !headL ((c :: r).drop ((c :: r).takeWhile isD).length)) = true
      · rw [if_pos h3] at hm ⊢
        have hn : ((c :: r).takeWhile isD).length = m + 1 := hm
        have htk := tw_take isD (c :: r)
        rw [hn] at htk h3
        have hext := tw_ext isD hd32 u hu ((c :: r).take (m + 1)) (by rw [htk]; exact tw_all isD _)
        have hlen : ((c :: r).take (m + 1)).length = m + 1 := by rw [htk]; exact hn
        rw [hext, hlen, hn, List.take_append_of_le_length (by omega), List.take_take, Nat.min_self]
        rw [Bool.and_eq_true] at h3
        have hh : headL (((c :: r).take (m + 1) ++ u).drop (m + 1)) = false := by
          rw [List.drop_append_of_le_length (by omega), List.drop_eq_nil_of_le (by omega), List.nil_append]
          rcases hu with rfl | ⟨t, rfl⟩
          · rfl
          · show isL 32 = false; decide
        rw [hh, h3.1]; rfl
      · rw [if_neg h3] at h; cases h
    rw [if_neg h2] at h hm ⊢
    rw [if_neg h2]
    by_cases h3 : c.toNat = 34
    · rw [if_pos h3] at h hm ⊢
      rw [if_pos h3]
      cases hq : quo r with
      | none => rw [hq] at h; cases h
      | some z =>
        obtain ⟨t, n⟩ := z
        rw [hq] at hm
        rw [quo_ext (quo_cut (m := m) hq (by simp only at hm; omega))]
    rw [if_neg h3] at h hm ⊢
    rw [if_neg h3]
    by_cases h4 : sgn (c :: r) = 0
    · rw [if_pos h4] at h; cases h
    rw [if_neg h4] at hm ⊢
    simp only at hm
    have e := sgn_ext (c :: r) u h4 hu (by simp)
    rw [hm] at e
    rw [e, hm, if_neg (by omega)]
def fillB (n : Int) : List UInt8 :=
  if Int.tmod n 6 = 0 then [32] else if Int.tmod n 6 = 1 then [9] else if Int.tmod n 6 = 2 then [10] else if Int.tmod n 6 = 3 then [13]
  else if Int.tmod n 6 = 4 then [47, 47, 32, 120, 10] else if Int.tmod n 6 = 5 then [47, 47, 34, 10] else []
def fill (l : List Int) : List UInt8 := l.flatMap fillB ++ [32]
end Go.Proofs.YtifachjefpcgcaaDoor.Pure
