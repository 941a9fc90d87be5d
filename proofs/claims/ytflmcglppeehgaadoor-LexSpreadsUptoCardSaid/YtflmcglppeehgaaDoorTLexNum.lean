import Derived.Lib.ParseIntB
import Derived.Lib.ItoaNum
import Derived.Test.YtflmcglppeehgaaDoorTLexQuo
namespace Go.Proofs.YtflmcglppeehgaaDoor.Pure
open Go.RowKit Go.Proofs.YtflmcglppeehgaaDoor.P Go.Proofs.YtflmcglppeehgaaDoor.Base Go.Proofs.YtflmcglppeehgaaDoorW.PrintWords Go.Proofs.YtflmcglppeehgaaDoorW.PrintLast Go.Proofs.YtflmcglppeehgaaDoorW.PrintMore
set_option linter.unusedVariables false
set_option linter.unusedSimpArgs false
def isL (c : UInt8) : Bool := isLetter (c.toNat : Int)
def isD (c : UInt8) : Bool := isDigit (c.toNat : Int)
def isW (c : UInt8) : Bool := isL c || isD c
theorem isD_iff (c : UInt8) : isD c = true ↔ (48 ≤ c.toNat ∧ c.toNat ≤ 57) := by
  unfold isD isDigit
  simp only [Bool.and_eq_true, decide_eq_true_eq]
  constructor <;> intro h <;> omega
theorem lletter (c : UInt8) : lex_letter.f (c.toNat : Int) = some (isL c) := by
  simpa using byte_all (p := fun c => decide (lex_letter.f (c.toNat : Int) = some (isL c))) (by decide +kernel) c
theorem rletter (c : UInt8) : treadleref12_Letter.f (c.toNat : Int) = some (isL c) := by
  simpa using byte_all (p := fun c => decide (treadleref12_Letter.f (c.toNat : Int) = some (isL c))) (by decide +kernel) c
theorem ldigit (c : UInt8) : lex_digit.f (c.toNat : Int) = some (isD c) := by
  simpa using byte_all (p := fun c => decide (lex_digit.f (c.toNat : Int) = some (isD c))) (by decide +kernel) c
theorem rdigit (c : UInt8) : treadleref12_Digit.f (c.toNat : Int) = some (isD c) := by
  simpa using byte_all (p := fun c => decide (treadleref12_Digit.f (c.toNat : Int) = some (isD c))) (by decide +kernel) c
def dv (c : UInt8) : Nat := c.toNat - 48
def val (a : Nat) (l : List UInt8) : Nat := l.foldl (fun x c => 10 * x + dv c) a
theorem val_nil (a : Nat) : val a [] = a := List.foldl_nil
theorem val_cons (a : Nat) (c : UInt8) (r : List UInt8) : val a (c :: r) = val (10 * a + dv c) r := List.foldl_cons ..
attribute [irreducible] val
theorem val_ge : ∀ (l : List UInt8) (a : Nat), a ≤ val a l
  | [], a => by rw [val_nil]; exact Nat.le_refl _
  | c :: r, a => by
    rw [val_cons]
    have := val_ge r (10 * a + dv c)
    generalize val (10 * a + dv c) r = X at *
    omega
def lead0 : List UInt8 → Bool
  | [] => true
  | c :: r => decide (c.toNat = 48) && !r.isEmpty
def numOk (l : List UInt8) : Bool := l.all isD && !lead0 l && decide (val 0 l ≤ 9223372036854775807)
theorem parseU (l : List UInt8) : ∀ (a : Nat), l.all isD = true → a ≤ 18446744073709551615 → Lib.parseUintM 18446744073709551615 a l = if val a l ≤ 18446744073709551615 then .ok (val a l) else .range := by
  induction l with
  | nil => intro a _ ha; unfold Lib.parseUintM; rw [val_nil, if_pos ha]
  | cons c r ih =>
    intro a hl ha
    simp only [List.all_cons, Bool.and_eq_true] at hl
    have hc := (isD_iff c).mp hl.1
    unfold Lib.parseUintM
    rw [val_cons]
    rw [if_pos hc]
    have hv := val_ge r (10 * a + dv c)
    have hd : dv c = c.toNat - 48 := rfl
    by_cases h1 : 1844674407370955162 ≤ a
    · rw [if_pos h1, if_neg (by generalize val (10 * a + dv c) r = X at *; omega)]
    rw [if_neg h1]
    have e : a * 10 + (c.toNat - 48) = 10 * a + dv c := by rw [hd, Nat.mul_comm]
    rw [e]
    by_cases h2 : 18446744073709551615 < 10 * a + dv c
    · rw [if_pos h2, if_neg (by generalize val (10 * a + dv c) r = X at *; omega)]
    · rw [if_neg h2, ih _ hl.2 (by omega)]
theorem parseI (c : UInt8) (r : List UInt8) (h : (c :: r).all isD = true) : Lib.parseIntB 64 (c :: r) = if val 0 (c :: r) ≤ 9223372036854775807 then .ok ((val 0 (c :: r) : Nat) : Int) else .range := by
  have hc : isD c = true := by simp only [List.all_cons, Bool.and_eq_true] at h; exact h.1
  have hc := (isD_iff c).mp hc
  unfold Lib.parseIntB
  simp only
  rw [if_neg (by omega)]
  unfold Lib.parseUintB
  rw [if_neg (by simp)]
  have e64 : (2 ^ 64 - 1 : Nat) = 18446744073709551615 := by decide
  have e63 : (2 ^ (64 - 1) : Nat) = 9223372036854775808 := by decide
  rw [e64, e63, parseU _ 0 h (by omega)]
  have hn : ¬ c.toNat = 45 := by omega
  generalize val 0 (c :: r) = X
  by_cases h1 : X ≤ 18446744073709551615
  · rw [if_pos h1]
    simp only
    by_cases h2 : X ≤ 9223372036854775807
    · rw [if_neg (by omega), if_neg (by omega), if_pos h2, if_neg hn]
    · rw [if_pos (by omega), if_neg h2]
  · rw [if_neg h1]
    simp only
    rw [if_neg (by omega)]
theorem dec_snoc {u : Nat} (hu : 1 ≤ u) (c : UInt8) (hc : isD c = true) : Lib.decDigits (10 * u + dv c) = Lib.decDigits u ++ [c] := by
  have h := (isD_iff c).mp hc
  have hd : dv c = c.toNat - 48 := rfl
  rw [Lib.decDigits, dif_neg (by omega)]
  have e1 : (10 * u + dv c) / 10 = u := by omega
  have e2 : (10 * u + dv c) % 10 = dv c := by omega
  rw [e1, e2]
  have e3 : UInt8.ofNat (48 + dv c) = c := by rw [hd, show 48 + (c.toNat - 48) = c.toNat by omega]; simp
  rw [e3]
theorem dec_val : ∀ (r : List UInt8) (u : Nat), 1 ≤ u → r.all isD = true → Lib.decDigits (val u r) = Lib.decDigits u ++ r
  | [], u, _, _ => by rw [val_nil, List.append_nil]
  | c :: r, u, hu, hr => by
    simp only [List.all_cons, Bool.and_eq_true] at hr
    rw [val_cons]
    rw [dec_val r (10 * u + dv c) (by omega) hr.2, dec_snoc hu c hr.1]
    simp
theorem dec_head (u : Nat) : 1 ≤ u → ∀ t, Lib.decDigits u ≠ 48 :: t := by
  induction u using Nat.strongRecOn with
  | ind u ih =>
    intro hu t h
    rw [Lib.decDigits] at h
    split at h
    · injection h with h1 _
      have := congrArg UInt8.toNat h1
      rw [UInt8.toNat_ofNat_of_lt' (by show 48 + u < 256; omega)] at this
      have h48 : (48 : UInt8).toNat = 48 := rfl
      omega
    · rename_i hlt
      cases hx : Lib.decDigits (u / 10) with
      | nil => 
        have := Lib.decDigits_length (u / 10)
        have h2 := Lib.nDigits_pos (u / 10)
        rw [hx] at this; simp at this; omega
      | cons d x =>
        rw [hx] at h
        injection h with h1 _
        subst h1
        exact ih (u / 10) (by omega) (by omega) x hx
theorem itoa_lead (c : UInt8) (r : List UInt8) (h : (c :: r).all isD = true) : decide (Lib.itoa ((val 0 (c :: r) : Nat) : Int) = c :: r) = !lead0 (c :: r) := by
  have hh := h
  simp only [List.all_cons, Bool.and_eq_true] at h
  have hc := (isD_iff c).mp h.1
  have hi : Lib.itoa ((val 0 (c :: r) : Nat) : Int) = Lib.decDigits (val 0 (c :: r)) := by
    unfold Lib.itoa
    rw [if_neg (Int.not_lt.mpr (Int.natCast_nonneg _)), Int.toNat_natCast]
  rw [hi]
  have e0 : val 0 (c :: r) = val (dv c) r := by rw [val_cons, show 10 * 0 + dv c = dv c by omega]
  rw [e0]
  have hd : dv c = c.toNat - 48 := rfl
  have ec : UInt8.ofNat (48 + dv c) = c := by rw [hd, show 48 + (c.toNat - 48) = c.toNat by omega]; simp
  by_cases h0 : c.toNat = 48
  · have hz : dv c = 0 := by omega
    have hc48 : c = 48 := by rw [← ec, hz]; rfl
    unfold lead0
    cases r with
    | nil =>
      have hz : Lib.decDigits (val (dv c) []) = [c] := by
        rw [val_nil, Lib.decDigits_one (by omega), ec]
      rw [decide_eq_true hz]; simp
    | cons d r =>
      have : ¬ Lib.decDigits (val (dv c) (d :: r)) = c :: d :: r := by
        intro hx
        have hx' : Lib.decDigits (val (dv c) (d :: r)) = 48 :: (d :: r) := hx.trans (by rw [hc48])
        rcases Nat.eq_zero_or_pos (val (dv c) (d :: r)) with hv | hv
        · rw [hv, Lib.decDigits_one (by omega)] at hx'; simp at hx'
        · exact dec_head _ hv _ hx'
      simp [this, h0]
  · unfold lead0
    rw [dec_val r (dv c) (by omega) h.2, Lib.decDigits_one (by omega), ec]
    simp [h0]
theorem lwhole (s : ByteArray) (hs : s.size ≤ 1048576) (h : (L s).all isD = true) (hne : L s ≠ []) : ∃ v, lex_whole.f s = some (v, numOk (L s)) ∧ (numOk (L s) = true → v = ((val 0 (L s) : Nat) : Int)) := by
  cases hl : L s with
  | nil => exact absurd hl hne
  | cons c r =>
    have hl' : s.data.toList = c :: r := hl
    have hall : (c :: r).all isD = true := by rw [← hl]; exact h
    have hc : isDigit (c.toNat : Int) = true := by
      simp only [List.all_cons, Bool.and_eq_true] at hall; exact hall.1
    unfold lex_whole.f
    rw [hl']
    simp only
    rw [if_pos ⟨hc, by omega⟩, parseI c r hall]
    unfold numOk
    by_cases h2 : val 0 (c :: r) ≤ 9223372036854775807
    · rw [if_pos h2]
      simp only
      rw [itoa_lead c r hall, hall, decide_eq_true h2]
      exact ⟨_, by simp, fun _ => rfl⟩
    · rw [if_neg h2]
      simp only
      rw [decide_eq_false h2]
      exact ⟨_, by simp; rfl, by simp⟩
def numR (l : List UInt8) : Int × Int := if numOk l = true then (((val 0 l : Nat) : Int), 0) else (0, 121)
theorem rnum_arith (a d : Nat) (hd : d ≤ 9) : ((a : Int) > ((9223372036854775807 - (d : Int)) / 10)) ↔ ¬ (10 * a + d ≤ 9223372036854775807) := by omega
theorem u64_id (x : Nat) (h : x ≤ 9223372036854775807) : IntKind.u64.wrap (x : Int) = (x : Int) := by
  simp only [IntKind.wrap, IntKind.bits, IntKind.signed, Bool.false_and, if_false, Bool.false_eq_true]
  omega
theorem wrap63 (x : Nat) (h : x ≤ 9223372036854775807) : wrap64 (x : Int) = (x : Int) := by unfold wrap64; omega
theorem rnum_loop (s : ByteArray) (hs : s.size ≤ 1048576) : ∀ (r : List UInt8) (i a : Nat), (L s).drop i = r → a ≤ 9223372036854775807 →
    Ev (fun k => treadleref12_Number.l0 k s a i) (if (r.all isD && decide (val a r ≤ 9223372036854775807)) = true then (((val a r : Nat) : Int), 0) else (0, 121))
  | [], i, a, h, ha => by
    have := drop_none h; rw [L_length] at this
    refine Ev.step (fun k => treadleref12_Number.l0.eq_2 _ _ _ k) (Ev.ite_neg (by omega) (Ev.some_ ?_))
    rw [wrap63 a ha, val_nil, decide_eq_true ha]; rfl
  | c :: r, i, a, h, ha => by
    obtain ⟨hb, hi⟩ := bt_drop h
    refine Ev.step (fun k => treadleref12_Number.l0.eq_2 _ _ _ k) (Ev.ite_pos (by omega) (Ev.ite_pos (by omega) ?_))
    rw [hb]
    refine Ev.bind_now (rdigit c) ?_
    by_cases hc : isD c = true
    · have hc' := (isD_iff c).mp hc
      have e1 : ((c.toNat : Int) - 48) % 256 = ((dv c : Nat) : Int) := by unfold dv; omega
      have hd9 : dv c ≤ 9 := by unfold dv; omega
      refine Ev.ite_pos hc ?_
      rw [e1]
      by_cases hx : 10 * a + dv c ≤ 9223372036854775807
      · refine Ev.ite_neg (fun hh => (rnum_arith a _ hd9).mp hh hx) ?_
        have e2 : IntKind.u64.wrap (10 * (a : Int)) = ((10 * a : Nat) : Int) := by rw [← u64_id (10 * a) (by omega)]; rfl
        have e3 : IntKind.u64.wrap (((10 * a : Nat) : Int) + ((dv c : Nat) : Int)) = ((10 * a + dv c : Nat) : Int) := by rw [← u64_id (10 * a + dv c) hx]; rfl
        rw [e2, e3, wrap_succ (by omega)]
        refine (rnum_loop s hs r (i + 1) (10 * a + dv c) (drop_some h).2.2 hx).eq ?_
        simp only [List.all_cons, hc, Bool.true_and, val_cons]
      · refine Ev.ite_pos ((rnum_arith a _ hd9).mpr hx) (Ev.some_ ?_)
        have hv := val_ge r (10 * a + dv c)
        have : ¬ val a (c :: r) ≤ 9223372036854775807 := by
          rw [val_cons]; intro hq; exact hx (Nat.le_trans hv hq)
        rw [decide_eq_false this]; simp
    · refine Ev.ite_neg hc (Ev.some_ ?_)
      simp [hc]
theorem rnumber (s : ByteArray) (hs : s.size ≤ 1048576) : Ev (fun k => treadleref12_Number.f k s) (numR (L s)) := by
  unfold treadleref12_Number.f
  cases h : L s with
  | nil =>
    have : s.size = 0 := by rw [size_eq_L, h]; rfl
    exact Ev.ite_pos (by omega) (Ev.step (fun k => treadleref12_Number.j0.eq_2 _ _ k) (Ev.ite_pos rfl (Ev.some_ (by simp [numR, numOk, lead0]))))
  | cons c r =>
    obtain ⟨hb0, hi0⟩ := bt_drop (i := 0) (s := s) (c := c) (r := r) (by simpa using h)
    have hb0 : bt s 0 = (c.toNat : Int) := hb0
    have hsz : s.size = r.length + 1 := by rw [size_eq_L, h]; rfl
    have hgo : ∀ b : Bool, b = false → lead0 (c :: r) = false → Ev (fun k => treadleref12_Number.j0 k s b) (numR (c :: r)) := fun b hb hl => by
      refine Ev.step (fun k => treadleref12_Number.j0.eq_2 _ _ k) (Ev.ite_neg (by simp [hb]) ?_)
      refine (rnum_loop s hs (c :: r) 0 0 (by simpa using h) (by omega)).eq ?_
      unfold numR numOk; rw [hl]; simp
    refine Ev.ite_neg (by omega) ?_
    by_cases h1 : r = []
    · subst h1
      refine Ev.ite_neg (by simp at hsz; omega) (hgo _ rfl (by simp [lead0]))
    · have : 1 ≤ r.length := by cases r with | nil => exact absurd rfl h1 | cons _ _ => simp
      refine Ev.ite_pos (by omega) (Ev.ite_pos (by omega) ?_)
      rw [hb0]
      by_cases h2 : c.toNat = 48
      · have e : ((c.toNat : Int) == 48) = true := by simp; omega
        refine Ev.step (fun k => treadleref12_Number.j0.eq_2 _ _ k) (Ev.ite_pos e (Ev.some_ ?_))
        have : lead0 (c :: r) = true := by cases r with | nil => exact absurd rfl h1 | cons _ _ => simp [lead0, h2]
        unfold numR numOk; rw [this]; simp
      · have e : ((c.toNat : Int) == 48) = false := by simp; omega
        exact hgo _ e (by simp [lead0, h2])
theorem among_loop (l : List ByteArray) (hl : l.length ≤ 1048576) (a : ByteArray) : ∀ (r : List ByteArray) (i : Nat), l.drop i = r → Ev (fun k => treadleref12_among.l0 k l a i) (r.any (fun x => decide (L x = L a)))
  | [], i, h => by
    have := drop_none h
    exact Ev.step (fun k => treadleref12_among.l0.eq_2 _ _ _ k) (Ev.ite_neg (by omega) (Ev.some_ rfl))
  | x :: r, i, h => by
    have hi := (drop_some h).1
    refine Ev.step (fun k => treadleref12_among.l0.eq_2 _ _ _ k) (Ev.ite_pos (by omega) (Ev.ite_pos (by omega) ?_))
    rw [rdOf_drop h, toList_L, toList_L]
    by_cases hx : L x = L a
    · exact Ev.ite_pos hx (Ev.some_ (by rw [List.any_cons, decide_eq_true hx]; rfl))
    · refine Ev.ite_neg hx ?_
      rw [wrap_succ (by omega)]
      exact (among_loop l hl a r (i + 1) (drop_some h).2.2).eq (by rw [List.any_cons, decide_eq_false hx]; rfl)
theorem ramong (l : List ByteArray) (hl : l.length ≤ 1048576) (a : ByteArray) : Ev (fun k => treadleref12_among.f k l a) ((l.map L).any (fun x => decide (x = L a))) :=
  (among_loop l hl a l 0 rfl).eq (by rw [List.any_map]; rfl)
theorem any_mem (l : List (List UInt8)) (a : List UInt8) : l.any (fun x => decide (x = a)) = decide (a ∈ l) := by
  rw [Bool.eq_iff_iff]; simp
theorem rkey (a : ByteArray) : Ev (fun k => treadleref12_Key.f k a) (decide (L a ∈ keyTexts)) := by
  unfold treadleref12_Key.f
  refine Ev.bind_now rfl ?_
  refine Ev.bind ((ramong _ (by simp) a).eq (?_ : _ = decide (L a ∈ keyTexts))) (Ev.some_ rfl)
  rw [any_mem]; rfl
theorem lkey (a : ByteArray) : lex_Key.f a = some (decide (L a ∈ keyTexts)) := rfl
def sgn (l : List UInt8) : Nat := if l.take 2 ∈ twoSigns then 2 else match l with | [] => 0 | c :: _ => if c ∈ oneSigns then 1 else 0
theorem two_len (t : List UInt8) (h : t ∈ twoSigns) : t.length = 2 := by
  unfold twoSigns at h; simp at h; rcases h with rfl | rfl | rfl | rfl | rfl | rfl | rfl <;> rfl
theorem lsign (s : ByteArray) (h : L s ≠ []) : lex_sign.f s = some ((sgn (L s) : Nat) : Int) := by
  unfold lex_sign.f sgn
  have e : twoSigns.any (fun t => decide (s.data.toList.take 2 = t)) = decide ((L s).take 2 ∈ twoSigns) := by
    rw [Bool.eq_iff_iff]; simp [L]
  rw [e]
  by_cases h2 : (L s).take 2 ∈ twoSigns
  · rw [if_pos (by simpa using h2), if_pos h2]; rfl
  rw [if_neg (by simpa using h2), if_neg h2]
  cases hl : L s with
  | nil => exact absurd hl h
  | cons c r =>
    obtain ⟨hb0, hi0⟩ := bt_drop (i := 0) (s := s) (c := c) (r := r) (by simpa using hl)
    have hb0 : bt s 0 = (c.toNat : Int) := hb0
    rw [if_neg (by omega), hb0]
    have ec : ((c.toNat : Int)).toNat.toUInt8 = c := by simp
    rw [ec]
    have := byte_all (p := fun c => decide (Lib.indexByte oneSigns c ≥ 0) == decide (c ∈ oneSigns)) (by decide +kernel) c
    have this : decide (Lib.indexByte oneSigns c ≥ 0) = decide (c ∈ oneSigns) := by simpa using this
    simp only
    by_cases h1 : c ∈ oneSigns
    · rw [if_pos (by rw [decide_eq_true h1] at this; exact of_decide_eq_true this), if_pos h1]; rfl
    · rw [if_neg (by rw [decide_eq_false h1] at this; exact of_decide_eq_false this), if_neg h1]; rfl
theorem rsign (s : ByteArray) (hs : s.size ≤ 1048576) (i : Nat) (c : UInt8) (r : List UInt8) (h : (L s).drop i = c :: r) : Ev (fun k => treadleref12_sign.f k s i) ((sgn (c :: r) : Nat) : Int) := by
  obtain ⟨hb, hi⟩ := bt_drop h
  have w1 : wrap64 ((i : Int) + 1) = ((i + 1 : Nat) : Int) := wrap_succ (by omega)
  have w2 : wrap64 ((i : Int) + 2) = ((i + 2 : Nat) : Int) := by rw [wrap_id (by omega) (by omega)]; omega
  have hsz : s.size = i + r.length + 1 := by
    have := congrArg List.length h
    rw [List.length_drop, L_length, List.length_cons] at this; omega
  have e0 : ((i : Int)).toNat = i := by omega
  have e1 : ((i + 1 : Nat) : Int).toNat = i + 1 := by omega
  have e2 : ((i + 2 : Nat) : Int).toNat = i + 2 := by omega
  have p1 : (0 : Int) ≤ (i : Int) := by omega
  have p2 : (i : Int) ≤ ((i + 1 : Nat) : Int) := by omega
  have p3 : (i : Int) ≤ ((i + 2 : Nat) : Int) := by omega
  have p4 : ((i + 1 : Nat) : Int) ≤ (s.size : Int) := by omega
  have p5 : ((i + 2 : Nat) : Int) ≤ (s.size : Int) ↔ 1 ≤ r.length := by omega
  unfold treadleref12_sign.f
  rw [w2]
  have hj : ∀ b : Bool, b = decide ((c :: r).take 2 ∈ twoSigns) → Ev (fun k => treadleref12_sign.j0 k s i b) ((sgn (c :: r) : Nat) : Int) := fun b hb' => by
    refine Ev.step (fun k => treadleref12_sign.j0.eq_2 _ _ _ k) ?_
    unfold sgn
    by_cases h2 : (c :: r).take 2 ∈ twoSigns
    · exact Ev.ite_pos (by rw [hb']; exact decide_eq_true h2) (Ev.some_ (by rw [if_pos h2]; rfl))
    · refine Ev.ite_neg (by rw [hb', decide_eq_false h2]; simp) ?_
      rw [w1, if_neg h2]
      refine Ev.ite_pos p1 (Ev.ite_pos p2 (Ev.ite_pos p4 ?_))
      rw [e0, e1]
      refine Ev.bind (ramong _ (by simp) _) ?_
      have ex : L (s.extract i (i + 1)) = [c] := by rw [L_extract, h, show i + 1 - i = 1 by omega]; rfl
      rw [ex, any_mem]
      have em : decide ([c] ∈ (List.map L [(⟨#[40]⟩ : ByteArray), (⟨#[41]⟩ : ByteArray), (⟨#[123]⟩ : ByteArray), (⟨#[125]⟩ : ByteArray), (⟨#[44]⟩ : ByteArray), (⟨#[59]⟩ : ByteArray), (⟨#[58]⟩ : ByteArray), (⟨#[46]⟩ : ByteArray), (⟨#[61]⟩ : ByteArray), (⟨#[60]⟩ : ByteArray), (⟨#[62]⟩ : ByteArray), (⟨#[43]⟩ : ByteArray), (⟨#[45]⟩ : ByteArray), (⟨#[42]⟩ : ByteArray), (⟨#[47]⟩ : ByteArray), (⟨#[37]⟩ : ByteArray), (⟨#[33]⟩ : ByteArray), (⟨#[35]⟩ : ByteArray)])) = decide (c ∈ oneSigns) := by
        rw [decide_eq_decide]; simp [L, oneSigns]
      rw [em]
      by_cases h1 : c ∈ oneSigns
      · exact Ev.ite_pos (by simpa using h1) (Ev.some_ (by simp [h1]))
      · exact Ev.ite_neg (by simpa using h1) (Ev.some_ (by simp [h1]))
  by_cases h2 : ((i + 2 : Nat) : Int) ≤ (s.size : Int)
  · refine Ev.ite_pos h2 (Ev.ite_pos p1 (Ev.ite_pos p3 ?_))
    rw [e0, e2]
    refine Ev.bind (ramong _ (by simp) _) (hj _ ?_)
    have ex : L (s.extract i (i + 2)) = (c :: r).take 2 := by rw [L_extract, h, show i + 2 - i = 2 by omega]
    rw [ex, any_mem]; rfl
  · refine Ev.ite_neg h2 (hj _ ?_)
    symm
    rw [decide_eq_false_iff_not]
    intro hm
    have := two_len _ hm
    have hr : ¬ 1 ≤ r.length := fun hh => h2 (p5.mpr hh)
    rw [List.length_take, List.length_cons] at this
    omega
end Go.Proofs.YtflmcglppeehgaaDoor.Pure
