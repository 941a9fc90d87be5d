/- Layer 4, path: the pure laws PathOrder, PathPairs. -/
import Derived.Test.YtaolgiojjeopkaaDoorPathLawsB
import Derived.Sort.Walk0
namespace Go.Proofs.YtaolgiojjeopkaaDoor.Pure
open Go.RowKit Go.Proofs.YtaolgiojjeopkaaDoor.P Go.Proofs.YtaolgiojjeopkaaDoor.Base Go.Proofs.YtaolgiojjeopkaaDoorW.PrintWords Go.Proofs.YtaolgiojjeopkaaDoorW.PrintLast Go.Proofs.YtaolgiojjeopkaaDoorW.PrintMore
set_option linter.unusedVariables false
set_option linter.unusedSimpArgs false

/-! ### the order of bytes, of names, of rows of names -/
abbrev bl := Op.bytesLess
theorem bl_irrefl (x : List UInt8) : bl x x = false := by
  induction x with
  | nil => rfl
  | cons a x ih =>
    show (decide (a < a) || (a == a && bl x x)) = false
    rw [ih]; simp
theorem bl_trans : ∀ (x y z : List UInt8), bl x y = true → bl y z = true → bl x z = true
  | _, [], _, h, _ => by simp [bl, Op.bytesLess] at h
  | _, _ :: _, [], _, h => by simp [bl, Op.bytesLess] at h
  | [], _ :: _, _ :: _, _, _ => rfl
  | a :: x, b :: y, c :: z, h1, h2 => by
    simp only [bl, Op.bytesLess, Bool.or_eq_true, Bool.and_eq_true, decide_eq_true_eq, beq_iff_eq] at h1 h2 ⊢
    rcases h1 with h1 | ⟨rfl, h1⟩
    · rcases h2 with h2 | ⟨rfl, h2⟩
      · exact .inl (UInt8.lt_trans h1 h2)
      · exact .inl h1
    · rcases h2 with h2 | ⟨rfl, h2⟩
      · exact .inl h2
      · exact .inr ⟨rfl, bl_trans x y z h1 h2⟩
theorem bl_total : ∀ (x y : List UInt8), bl x y = false → bl y x = false → x = y
  | [], [], _, _ => rfl
  | [], _ :: _, h, _ => by simp [bl, Op.bytesLess] at h
  | _ :: _, [], _, h => by simp [bl, Op.bytesLess] at h
  | a :: x, b :: y, h1, h2 => by
    simp only [bl, Op.bytesLess, Bool.or_eq_false_iff, Bool.and_eq_false_iff, decide_eq_false_iff_not, beq_eq_false_iff_ne] at h1 h2
    have hab : a = b := by
      apply UInt8.toNat_inj.mp
      have p1 := h1.1; have p2 := h2.1
      rw [UInt8.lt_iff_toNat_lt] at p1 p2
      omega
    subst hab
    rw [bl_total x y (h1.2.resolve_left (by simp)) (h2.2.resolve_left (by simp))]
theorem bl_asymm {x y : List UInt8} (h : bl x y = true) : bl y x = false := by
  cases h2 : bl y x with
  | false => rfl
  | true => have := bl_trans x y x h h2; rw [bl_irrefl] at this; cases this
def cmpN : List ByteArray → List ByteArray → Int
  | [], [] => 0
  | [], _ :: _ => -1
  | _ :: _, [] => 1
  | x :: a, y :: b => if x = y then cmpN a b else if bl (L x) (L y) = true then -1 else 1
theorem pcmp (x y : ByteArray) : cmp_Compare_string.f x y = some (if x = y then 0 else if bl (L x) (L y) = true then -1 else 1) := by
  unfold cmp_Compare_string.f
  rw [toList_L, toList_L]
  congr 1
  by_cases e : x = y
  · subst e; simp
  · rw [if_neg e, if_neg (fun h => e (L_inj h))]
theorem pcompare_loop (a b : List ByteArray) (ha : a.length ≤ 1099511627776) : ∀ (r q : List ByteArray) (i : Nat), a.drop i = r → b.drop i = q → i ≤ a.length →
    Ev (fun k => slices_Compare_string_string.l0 k a b a (a.length : Int) i) (cmpN r q)
  | [], q, i, h, h', hi => by
    have h0 := drop_none h
    refine Ev.step (fun k => slices_Compare_string_string.l0.eq_2 _ _ _ _ _ k) (Ev.ite_neg (by omega) ?_)
    cases q with
    | nil =>
      have := drop_none h'
      exact Ev.ite_neg (by omega) (Ev.some_ rfl)
    | cons y q =>
      have := (drop_some h').1
      by_cases hh : (a.length : Int) < (b.length : Int)
      · exact Ev.ite_pos hh (Ev.some_ rfl)
      · exfalso; omega
  | x :: r, q, i, h, h', hi => by
    obtain ⟨h1, _, h3⟩ := drop_some h
    refine Ev.step (fun k => slices_Compare_string_string.l0.eq_2 _ _ _ _ _ k) (Ev.ite_pos (by omega) (Ev.ite_pos (by omega) (Ev.ite_pos (by omega) ?_)))
    cases q with
    | nil =>
      have := drop_none h'
      exact Ev.ite_pos (by omega) (Ev.some_ rfl)
    | cons y q =>
      obtain ⟨g1, _, g3⟩ := drop_some h'
      refine Ev.ite_neg (by omega) (Ev.ite_pos (by omega) ?_)
      rw [rdOf_drop h, rdOf_drop h', wrap_succ (by omega)]
      refine Ev.bind_now (pcmp x y) ?_
      unfold cmpN
      by_cases e : x = y
      · rw [if_pos e, if_pos e]
        exact Ev.ite_pos rfl (pcompare_loop a b ha r q (i + 1) h3 g3 (by omega))
      · rw [if_neg e, if_neg e]
        refine Ev.ite_neg ?_ (Ev.some_ rfl)
        split <;> decide
theorem pcompare (a b : List ByteArray) (ha : a.length ≤ 1099511627776) : Ev (fun k => slices_Compare_string_string.f k a b) (cmpN a b) := by
  unfold slices_Compare_string_string.f
  exact pcompare_loop a b ha a b 0 rfl rfl (by omega)
def compareP (a b : ByteArray) : Int × Int := match okB a b with | some (x, y) => (cmpN x y, 0) | none => (0, 45)
theorem pcompareP (a b : ByteArray) (ha : a.size ≤ 1048576) (hb : b.size ≤ 1048576) : Ev (fun k => path_Compare.f k a b) (compareP a b) := by
  unfold path_Compare.f compareP
  obtain ⟨x, y, e, hE, hh⟩ := pboth a b ha hb
  refine Ev.bind hE ?_
  cases ho : okB a b with
  | none => rw [ho] at hh; exact Ev.ite_neg (by simp [hh]) (Ev.some_ (by simp [hh]))
  | some p =>
    obtain ⟨p, q⟩ := p
    rw [ho] at hh
    obtain ⟨rfl, rfl, rfl⟩ := hh
    have hx := (namesOf_nm (okB_nm ho).1).2
    exact Ev.ite_pos rfl (Ev.bind (pcompare x y (by omega)) (Ev.some_ rfl))
theorem cmpN_vals (a b : List ByteArray) : cmpN a b = 0 ∨ cmpN a b = 1 ∨ cmpN a b = -1 := by
  induction a generalizing b with
  | nil => cases b <;> simp [cmpN]
  | cons x a ih =>
    cases b with
    | nil => simp [cmpN]
    | cons y b =>
      unfold cmpN
      split
      · exact ih b
      · split <;> simp
theorem cmpN_neg (a b : List ByteArray) : cmpN a b = -cmpN b a := by
  induction a generalizing b with
  | nil => cases b <;> simp [cmpN]
  | cons x a ih =>
    cases b with
    | nil => simp [cmpN]
    | cons y b =>
      unfold cmpN
      by_cases e : x = y
      · rw [if_pos e, if_pos e.symm, ih]
      · rw [if_neg e, if_neg (Ne.symm e)]
        by_cases h : bl (L x) (L y) = true
        · rw [if_pos h, if_neg (by rw [bl_asymm h]; simp)]
        · have h2 : bl (L y) (L x) = true := by
            cases h2 : bl (L y) (L x) with
            | true => rfl
            | false => exact absurd (L_inj (bl_total _ _ (by simpa using h) h2)) e
          rw [if_neg h, if_pos h2]; rfl
theorem cmpN_zero (a b : List ByteArray) : cmpN a b = 0 ↔ a = b := by
  induction a generalizing b with
  | nil => cases b <;> simp [cmpN]
  | cons x a ih =>
    cases b with
    | nil => simp [cmpN]
    | cons y b =>
      unfold cmpN
      by_cases e : x = y
      · rw [if_pos e, ih]; simp [e]
      · rw [if_neg e]
        constructor
        · intro h; split at h <;> simp at h
        · intro h; injection h; contradiction
theorem cmpN_trans : ∀ (a b c : List ByteArray), cmpN a b ≤ 0 → cmpN b c ≤ 0 → cmpN a c ≤ 0
  | [], _, [], _, _ => by simp [cmpN]
  | [], _, _ :: _, _, _ => by simp [cmpN]
  | _ :: _, [], _, h, _ => by simp [cmpN] at h
  | _ :: _, _ :: _, [], _, h => by simp [cmpN] at h
  | x :: a, y :: b, z :: c, h1, h2 => by
    unfold cmpN at h1 h2 ⊢
    by_cases e1 : x = y
    · subst e1
      rw [if_pos rfl] at h1
      by_cases e2 : x = z
      · rw [if_pos e2] at h2 ⊢; exact cmpN_trans a b c h1 h2
      · rw [if_neg e2] at h2 ⊢; exact h2
    · rw [if_neg e1] at h1
      have l1 : bl (L x) (L y) = true := by
        by_cases h : bl (L x) (L y) = true
        · exact h
        · rw [if_neg h] at h1; simp at h1
      by_cases e2 : y = z
      · subst e2
        rw [if_neg e1, if_pos l1]; decide
      · rw [if_neg e2] at h2
        have l2 : bl (L y) (L z) = true := by
          by_cases h : bl (L y) (L z) = true
          · exact h
          · rw [if_neg h] at h2; simp at h2
        have l3 := bl_trans _ _ _ l1 l2
        by_cases e3 : x = z
        · subst e3; rw [bl_irrefl] at l3; cases l3
        · rw [if_neg e3, if_pos l3]; decide
/-- what stands between a and what is below a is below a -/
theorem cmpN_between : ∀ (a b c : List ByteArray), a = c.take a.length → cmpN a b < 0 → cmpN b c < 0 → a.length < b.length ∧ a = b.take a.length
  | [], [], _, _, h, _ => by simp [cmpN] at h
  | [], _ :: _, _, _, _, _ => by simp
  | _ :: _, [], _, _, h, _ => by simp [cmpN] at h
  | _ :: _, _ :: _, [], h, _, _ => by simp at h
  | x :: a, y :: b, z :: c, h, h1, h2 => by
    simp only [List.length_cons, List.take_succ_cons, List.cons.injEq] at h
    obtain ⟨rfl, h⟩ := h
    unfold cmpN at h1 h2
    by_cases e1 : x = y
    · subst e1
      rw [if_pos rfl] at h1 h2
      obtain ⟨i1, i2⟩ := cmpN_between a b c h h1 h2
      simp only [List.length_cons, List.take_succ_cons, List.cons.injEq, true_and]
      exact ⟨by omega, i2⟩
    · exfalso
      rw [if_neg e1] at h1
      rw [if_neg (Ne.symm e1)] at h2
      by_cases l1 : bl (L x) (L y) = true
      · rw [if_neg (by rw [bl_asymm l1]; simp)] at h2; simp at h2
      · rw [if_neg l1] at h1; simp at h1
theorem cmpN_above : ∀ (a b : List ByteArray), a.length < b.length → a = b.take a.length → cmpN a b = -1
  | [], [], h, _ => by simp at h
  | [], _ :: _, _, _ => rfl
  | _ :: _, [], h, _ => by simp at h
  | x :: a, y :: b, h, h2 => by
    simp only [List.length_cons, List.take_succ_cons, List.cons.injEq] at h h2
    unfold cmpN
    rw [if_pos h2.1]
    exact cmpN_above a b (by omega) h2.2
theorem PathOrder (a b c : ByteArray) (ha : a.size ≤ 1048576) (hb : b.size ≤ 1048576) (hc : c.size ≤ 1048576) : Ev (fun k => treadlelaw04_PathOrder.f k a b c) true := by
  unfold treadlelaw04_PathOrder.f
  have fin : Ev (fun k => (treadlelaw04_awake.f k).bind fun t => some t) true := Ev.bind awake (Ev.some_ rfl)
  refine Ev.bind (pcompareP a b ha hb) (Ev.bind (pcompareP b c hb hc) (Ev.bind (pcompareP a c ha hc) (Ev.bind (pcompareP b a hb ha) ?_)))
  have bad : ∀ (p q r t : Int) (x : Bool), x = true → (namesOf a = none ∨ namesOf b = none ∨ namesOf c = none) → Ev (fun k => treadlelaw04_PathOrder.j0 k a b c p q r t x) true := fun p q r t x hx hn => by
    refine Ev.step (fun k => treadlelaw04_PathOrder.j0.eq_2 _ _ _ _ _ _ _ _ k) (Ev.ite_pos hx (Ev.bind (pcheck a (by omega)) ?_))
    cases h1 : namesOf a with
    | none => exact Ev.ite_neg (by simp) fin
    | some x1 =>
      refine Ev.ite_pos rfl (Ev.bind (pcheck b (by omega)) ?_)
      cases h2 : namesOf b with
      | none => exact Ev.ite_neg (by simp) fin
      | some x2 =>
        refine Ev.ite_pos rfl (Ev.bind (pcheck c (by omega)) ?_)
        cases h3 : namesOf c with
        | none => exact Ev.ite_neg (by simp) fin
        | some x3 => rw [h1, h2, h3] at hn; simp at hn
  cases h1 : namesOf a with
  | none =>
    have e : compareP a b = (0, 45) := by unfold compareP okB; rw [h1]
    rw [e]
    exact Ev.ite_neg (by simp) (bad _ _ _ _ _ rfl (.inl h1))
  | some x =>
    cases h2 : namesOf b with
    | none =>
      have e : compareP a b = (0, 45) := by unfold compareP okB; rw [h1, h2]
      rw [e]
      exact Ev.ite_neg (by simp) (bad _ _ _ _ _ rfl (.inr (.inl h2)))
    | some y =>
      have e1 : compareP a b = (cmpN x y, 0) := by unfold compareP okB; rw [h1, h2]
      have e4 : compareP b a = (cmpN y x, 0) := by unfold compareP okB; rw [h1, h2]
      cases h3 : namesOf c with
      | none =>
        have e : compareP b c = (0, 45) := by unfold compareP okB; rw [h2, h3]
        rw [e1, e]
        exact Ev.ite_pos rfl (Ev.ite_neg (by simp) (bad _ _ _ _ _ rfl (.inr (.inr h3))))
      | some z =>
        have e2 : compareP b c = (cmpN y z, 0) := by unfold compareP okB; rw [h2, h3]
        have e3 : compareP a c = (cmpN x z, 0) := by unfold compareP okB; rw [h1, h3]
        rw [e1, e2, e3, e4]
        refine Ev.ite_pos rfl (Ev.ite_pos rfl (Ev.ite_pos rfl ?_))
        refine Ev.step (fun k => treadlelaw04_PathOrder.j0.eq_2 _ _ _ _ _ _ _ _ k) (Ev.ite_neg (by simp) ?_)
        have hv := cmpN_vals y x
        have w : wrap64 (-cmpN y x) = -cmpN y x := wrap_id (by omega) (by omega)
        refine Ev.ite_pos (by rw [w]; exact cmpN_neg x y) (Ev.ite_neg ?_ ?_)
        · have hab : (a.toList == b.toList) = (cmpN x y == 0) := by
            rw [Bool.eq_iff_iff]
            simp only [beq_iff_eq]
            rw [toList_inj, cmpN_zero]
            constructor
            · intro e; rw [e, h2] at h1; injection h1 with h1; exact h1.symm
            · intro e; rw [← txt_namesOf h1, ← txt_namesOf h2, e]
          rw [hab]; simp
        have go : ∀ f : Bool, f = false → Ev (fun k => treadlelaw04_PathOrder.j1 k a b c (cmpN x y) (cmpN y z) f) true := fun f hf => by
          refine Ev.step (fun k => treadlelaw04_PathOrder.j1.eq_2 _ _ _ _ _ _ k) (Ev.ite_neg (by simp [hf]) ?_)
          refine Ev.bind (pabove a c ha hc) (Ev.bind (pabove a b ha hb) ?_)
          have ea : aboveP a c = (decide (x.length < z.length) && decide (x = z.take x.length), 0) := by unfold aboveP okB; rw [h1, h3]
          have eb : aboveP a b = (decide (x.length < y.length) && decide (x = y.take x.length), 0) := by unfold aboveP okB; rw [h1, h2]
          rw [ea, eb]
          have low : ∀ (h : (decide (x.length < y.length) && decide (x = y.take x.length)) = true), cmpN x y = -1 := fun h => by
            simp only [Bool.and_eq_true, decide_eq_true_eq] at h
            exact cmpN_above x y h.1 h.2
          by_cases hz : (decide (x.length < z.length) && decide (x = z.take x.length)) = true
          · refine Ev.ite_pos hz ?_
            by_cases hp : cmpN x y < 0
            · refine Ev.ite_pos hp ?_
              by_cases hq : cmpN y z < 0
              · have hz2 := hz
                simp only [Bool.and_eq_true, decide_eq_true_eq] at hz2
                have hbt := cmpN_between x y z hz2.2 hp hq
                have hl : (decide (x.length < y.length) && decide (x = y.take x.length)) = true := by
                  simp only [Bool.and_eq_true, decide_eq_true_eq]; exact hbt
                exact Ev.ite_pos hq (Ev.ite_pos hl (Ev.ite_pos (low hl) fin))
              · refine Ev.ite_neg hq ?_
                by_cases hl : (decide (x.length < y.length) && decide (x = y.take x.length)) = true
                · exact Ev.ite_pos hl (Ev.ite_pos (low hl) fin)
                · exact Ev.ite_neg hl fin
            · refine Ev.ite_neg hp ?_
              by_cases hl : (decide (x.length < y.length) && decide (x = y.take x.length)) = true
              · exact Ev.ite_pos hl (Ev.ite_pos (low hl) fin)
              · exact Ev.ite_neg hl fin
          · refine Ev.ite_neg hz ?_
            by_cases hl : (decide (x.length < y.length) && decide (x = y.take x.length)) = true
            · exact Ev.ite_pos hl (Ev.ite_pos (low hl) fin)
            · exact Ev.ite_neg hl fin
        by_cases hp : cmpN x y ≤ 0
        · refine Ev.ite_pos hp ?_
          by_cases hq : cmpN y z ≤ 0
          · have := cmpN_trans x y z hp hq
            exact Ev.ite_pos hq (go _ (by simp; omega))
          · exact Ev.ite_neg hq (go _ rfl)
        · exact Ev.ite_neg hp (go _ rfl)

/-! ### PathPairs: the reference's words -/
theorem com_full (x y : List ByteArray) : (com x y = x.length) ↔ x = y.take x.length := by
  induction x generalizing y with
  | nil => simp [com]
  | cons a x ih =>
    cases y with
    | nil => simp [com]
    | cons b y =>
      unfold com
      by_cases e : a = b
      · subst e; rw [if_pos rfl]; simp [ih]
      · rw [if_neg e]; simp [e]
theorem rabove (a b : ByteArray) (ha : a.size ≤ 1048576) (hb : b.size ≤ 1048576) : Ev (fun k => treadleref04_Above.f k a b) (aboveP a b) := by
  unfold treadleref04_Above.f aboveP okB
  refine Ev.bind (rnames a (by omega)) (Ev.bind (rnames b (by omega)) ?_)
  cases hx : namesOf a with
  | none => exact Ev.ite_neg (by simp) (Ev.some_ rfl)
  | some x =>
    have hx2 := (namesOf_nm hx).2
    refine Ev.ite_pos rfl ?_
    cases hy : namesOf b with
    | none => exact Ev.ite_neg (by simp) (Ev.some_ rfl)
    | some y =>
      refine Ev.ite_pos rfl (Ev.bind (rcommon x y (by omega)) ?_)
      by_cases h : com x y = x.length
      · refine Ev.ite_pos (by show ((com x y : Nat) : Int) = (x.length : Int); omega) (Ev.some_ ?_)
        have := (com_full x y).mp h
        simp [← this]
      · refine Ev.ite_neg (by show ¬ ((com x y : Nat) : Int) = (x.length : Int); omega) (Ev.some_ ?_)
        have h2 : ¬ x = y.take x.length := fun e => h ((com_full x y).mpr e)
        simp [h2]
theorem cmpN_com (x y : List ByteArray) : cmpN x y =
    (if com x y = x.length ∧ com x y = y.length then 0 else if com x y = x.length then -1 else if com x y = y.length then 1 else
      if bl (L (x.getD (com x y) ByteArray.empty)) (L (y.getD (com x y) ByteArray.empty)) = true then -1 else 1) := by
  induction x generalizing y with
  | nil =>
    cases y with
    | nil => simp [cmpN, com]
    | cons b y => simp [cmpN, com]
  | cons a x ih =>
    cases y with
    | nil => simp [cmpN, com]
    | cons b y =>
      by_cases e : a = b
      · subst e
        simp only [cmpN, com, if_true, List.length_cons, Nat.add_right_cancel_iff, List.getD_cons_succ]
        exact ih y
      · have h1 : ¬ (0 = x.length + 1) := by omega
        have h2 : ¬ (0 = y.length + 1) := by omega
        simp only [cmpN, com, if_neg e, List.length_cons, List.getD_cons_zero, h1, h2, false_and, if_false]
theorem rcompareP (a b : ByteArray) (ha : a.size ≤ 1048576) (hb : b.size ≤ 1048576) : Ev (fun k => treadleref04_Compare.f k a b) (compareP a b) := by
  unfold treadleref04_Compare.f compareP okB
  refine Ev.bind (rnames a (by omega)) (Ev.bind (rnames b (by omega)) ?_)
  have bad : ∀ (x y : List ByteArray) (f : Bool), f = true → Ev (fun k => treadleref04_Compare.j0 k x y f) (0, 45) := fun x y f hf => by
    refine Ev.step (fun k => treadleref04_Compare.j0.eq_2 _ _ _ k) (Ev.ite_pos hf (Ev.some_ rfl))
  cases hx : namesOf a with
  | none => exact Ev.ite_neg (by simp) (bad _ _ _ rfl)
  | some x =>
    have hx2 := (namesOf_nm hx).2
    refine Ev.ite_pos rfl ?_
    cases hy : namesOf b with
    | none => exact bad _ _ _ rfl
    | some y =>
      refine Ev.step (fun k => treadleref04_Compare.j0.eq_2 _ _ _ k) (Ev.ite_neg (by simp) (Ev.bind (rcommon x y (by omega)) ?_))
      have hc := com_le x y
      have hz : ∀ f : Bool, f = true → com x y = x.length → com x y = y.length → Ev (fun k => treadleref04_Compare.j1 k x y ((com x y : Nat) : Int) f) (cmpN x y, 0) := fun f hf h1 h2 => by
        refine Ev.step (fun k => treadleref04_Compare.j1.eq_2 _ _ _ _ k) (Ev.ite_pos hf (Ev.some_ ?_))
        rw [cmpN_com, if_pos ⟨h1, h2⟩]
      have hn : ∀ f : Bool, f = false → ¬ (com x y = x.length ∧ com x y = y.length) → Ev (fun k => treadleref04_Compare.j1 k x y ((com x y : Nat) : Int) f) (cmpN x y, 0) := fun f hf h1 => by
        refine Ev.step (fun k => treadleref04_Compare.j1.eq_2 _ _ _ _ k) (Ev.ite_neg (by simp [hf]) ?_)
        rw [cmpN_com, if_neg h1]
        by_cases h2 : com x y = x.length
        · refine Ev.ite_pos (by omega) (Ev.some_ ?_); rw [if_pos h2]
        · refine Ev.ite_neg (by omega) ?_
          rw [if_neg h2]
          by_cases h3 : com x y = y.length
          · refine Ev.ite_pos (by omega) (Ev.some_ ?_); rw [if_pos h3]
          · refine Ev.ite_neg (by omega) (Ev.ite_pos (by omega) (Ev.ite_pos (by omega) (Ev.ite_pos (by omega) ?_)))
            rw [if_neg h3]
            have e1 : rdOf ByteArray.empty x ((com x y : Nat) : Int) = x.getD (com x y) ByteArray.empty := by unfold rdOf; rw [Int.toNat_natCast]
            have e2 : rdOf ByteArray.empty y ((com x y : Nat) : Int) = y.getD (com x y) ByteArray.empty := by unfold rdOf; rw [Int.toNat_natCast]
            rw [e1, e2, toList_L, toList_L]
            by_cases h4 : bl (L (x.getD (com x y) ByteArray.empty)) (L (y.getD (com x y) ByteArray.empty)) = true
            · refine Ev.ite_pos h4 (Ev.some_ ?_); rw [if_pos h4]
            · refine Ev.ite_neg h4 (Ev.some_ ?_); rw [if_neg h4]
      by_cases h1 : com x y = x.length
      · refine Ev.ite_pos (by show ((com x y : Nat) : Int) = (x.length : Int); omega) ?_
        by_cases h2 : com x y = y.length
        · exact hz _ (by simp [h2]) h1 h2
        · exact hn _ (by simp; omega) (fun h => h2 h.2)
      · refine Ev.ite_neg (by show ¬ ((com x y : Nat) : Int) = (x.length : Int); omega) ?_
        exact hn _ rfl (fun h => h1 h.1)
theorem rrel_loop (x y : List ByteArray) (n : Nat) (hn : n ≤ y.length) (hx : x.length ≤ 1048576) (hy : y.length ≤ 1048576) (hnx : n ≤ x.length) (ht : tot (List.replicate (x.length - n) dots ++ y.drop n) ≤ 1099511627776) : ∀ (d i : Nat), i + d = x.length → n ≤ i →
    Ev (fun k => treadleref04_Rel.l0 k x y n (List.replicate (i - n) dots) i) (if List.replicate (x.length - n) dots ++ y.drop n = [] then (⟨#[46]⟩, 0) else (txt (List.replicate (x.length - n) dots ++ y.drop n), 0))
  | 0, i, h, hi => by
    have : i = x.length := by omega
    subst this
    refine Ev.step (fun k => treadleref04_Rel.l0.eq_2 _ _ _ _ _ k) ?_
    refine Ev.ite_neg (by omega) (Ev.ite_pos (by omega) (Ev.ite_pos (by omega) (Ev.bind_now rfl ?_)))
    rw [Int.toNat_natCast]
    refine Ev.ite_pos (by simp; omega) (Ev.bind_now rfl ?_)
    by_cases e : List.replicate (x.length - n) dots ++ y.drop n = []
    · rw [if_pos e]
      refine Ev.ite_pos (by rw [e]; rfl) (Ev.some_ rfl)
    · rw [if_neg e]
      refine Ev.ite_neg (fun z => e (List.eq_nil_of_length_eq_zero (by omega))) ?_
      exact Ev.bind (rtext _ ht) (Ev.some_ rfl)
  | d + 1, i, h, hi => by
    refine Ev.step (fun k => treadleref04_Rel.l0.eq_2 _ _ _ _ _ k) ?_
    refine Ev.ite_pos (by omega) (Ev.ite_pos (by simp; omega) ?_)
    rw [wrap_succ (by omega)]
    have e : List.replicate (i - n) dots ++ [dots] = List.replicate (i + 1 - n) dots := by
      rw [show i + 1 - n = (i - n) + 1 by omega, List.replicate_succ']
    rw [e]
    exact rrel_loop x y n hn hx hy hnx ht d (i + 1) (by omega) (by omega)
theorem rrel (a b : ByteArray) (ha : a.size ≤ 1048576) (hb : b.size ≤ 1048576) : Ev (fun k => treadleref04_Rel.f k a b) (relP a b) := by
  unfold treadleref04_Rel.f relP okB
  refine Ev.bind (rnames a (by omega)) (Ev.bind (rnames b (by omega)) ?_)
  have bad : ∀ (x y : List ByteArray) (f : Bool), f = true → Ev (fun k => treadleref04_Rel.j0 k x y f) (⟨#[]⟩, 45) := fun x y f hf => by
    refine Ev.step (fun k => treadleref04_Rel.j0.eq_2 _ _ _ k) (Ev.ite_pos hf (Ev.some_ rfl))
  cases hx : namesOf a with
  | none => exact Ev.ite_neg (by simp) (bad _ _ _ rfl)
  | some x =>
    obtain ⟨hx1, hx2⟩ := namesOf_nm hx
    refine Ev.ite_pos rfl ?_
    cases hy : namesOf b with
    | none => exact bad _ _ _ rfl
    | some y =>
      obtain ⟨hy1, hy2⟩ := namesOf_nm hy
      refine Ev.step (fun k => treadleref04_Rel.j0.eq_2 _ _ _ k) (Ev.ite_neg (by simp) (Ev.bind (rcommon x y (by omega)) ?_))
      have hc := com_le x y
      have ht := relN_tot x y hx2 hy1 hy2
      have := rrel_loop x y (com x y) hc.2 (by omega) (by omega) hc.1 (by unfold relN at ht; omega) (x.length - com x y) (com x y) (by omega) (Nat.le_refl _)
      rw [Nat.sub_self] at this
      refine this.eq ?_
      show _ = (relT x y, 0)
      unfold relT relN
      split <;> rfl
theorem rsplitP (s : ByteArray) (hs : s.size ≤ 1048576) : Ev (fun k => treadleref04_Split.f k s) (splitP s) := by
  unfold treadleref04_Split.f splitP
  refine Ev.bind (rnames s (by omega)) ?_
  cases hn : namesOf s with
  | none => exact Ev.ite_neg (by simp) (Ev.some_ rfl)
  | some l =>
    obtain ⟨h1, h2⟩ := namesOf_nm hn
    refine Ev.ite_pos rfl ?_
    dsimp only
    have w : wrap64 ((l.length : Int) - 1) = (l.length : Int) - 1 := wrap_id (by omega) (by omega)
    rw [w]
    by_cases hl : l = []
    · subst hl; exact Ev.ite_pos rfl (Ev.some_ rfl)
    · have hp : 0 < l.length := List.length_pos_iff.mpr hl
      rw [if_neg hl, take_dropLast, rd_last l hl]
      have ht := tot_nm _ (dropLast_nm h1)
      rw [List.length_dropLast] at ht
      exact Ev.ite_neg (by omega) (Ev.ite_pos (by omega) (Ev.ite_pos (by omega) (Ev.bind (rtext _ (by omega)) (Ev.ite_pos (by omega) (Ev.some_ rfl)))))
theorem PathPairs (a b : ByteArray) (ha : a.size ≤ 1048576) (hb : b.size ≤ 1048576) : Ev (fun k => treadlelaw04_PathPairs.f k a b) true := by
  unfold treadlelaw04_PathPairs.f
  refine Ev.bind (pabove a b ha hb) (Ev.bind (rabove a b ha hb) (Ev.bind (pcompareP a b ha hb) (Ev.bind (rcompareP a b ha hb) (Ev.bind (prel a b ha hb) (Ev.bind (rrel a b ha hb) (Ev.bind (psplitP a ha) (Ev.bind (rsplitP a ha) ?_)))))))
  refine Ev.ite_pos (by simp) (Ev.bind_now rfl (Ev.ite_pos rfl (Ev.ite_pos rfl (Ev.bind_now rfl (Ev.ite_pos rfl (Ev.ite_pos rfl (Ev.bind_now rfl (Ev.ite_pos rfl (Ev.ite_pos rfl (Ev.ite_pos rfl (Ev.bind_now rfl (Ev.ite_pos rfl (Ev.bind awake (Ev.some_ rfl))))))))))))))
end Go.Proofs.YtaolgiojjeopkaaDoor.Pure
