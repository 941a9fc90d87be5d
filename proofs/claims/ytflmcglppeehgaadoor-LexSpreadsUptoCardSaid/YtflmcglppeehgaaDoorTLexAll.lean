import Derived.Test.YtflmcglppeehgaaDoorTLexTok
namespace Go.Proofs.YtflmcglppeehgaaDoor.Pure
open Go.RowKit Go.Proofs.YtflmcglppeehgaaDoor.P Go.Proofs.YtflmcglppeehgaaDoor.Base Go.Proofs.YtflmcglppeehgaaDoorW.PrintWords Go.Proofs.YtflmcglppeehgaaDoorW.PrintLast Go.Proofs.YtflmcglppeehgaaDoorW.PrintMore
set_option linter.unusedVariables false
set_option linter.unusedSimpArgs false
theorem tok_ok (l : List UInt8) (h : (tok l).2.2 = 0) : 1 ≤ (tok l).2.1 ∧ 1 ≤ (tok l).1 ∧ (tok l).1 ≤ 5 := by
  cases l with
  | nil => simp [tok] at h
  | cons c r =>
    change (tokC c r).2.2 = 0 at h
    show 1 ≤ (tokC c r).2.1 ∧ 1 ≤ (tokC c r).1 ∧ (tokC c r).1 ≤ 5
    have hw : isL c = true → 1 ≤ ((c :: r).takeWhile isW).length := fun h1 => by
      rw [List.takeWhile_cons, if_pos (by unfold isW; rw [h1]; rfl)]; simp
    have hd : isD c = true → 1 ≤ ((c :: r).takeWhile isD).length := fun h1 => by
      rw [List.takeWhile_cons, if_pos h1]; simp
    unfold tokC at h ⊢
    by_cases h1 : isL c = true
    · rw [if_pos h1] at h ⊢
      by_cases h2 : 32 < ((c :: r).takeWhile isW).length
      · rw [if_pos h2] at h; cases h
      rw [if_neg h2] at h ⊢
      by_cases h3 : (c :: r).take ((c :: r).takeWhile isW).length ∈ keyTexts
      · rw [if_pos h3]; exact ⟨hw h1, by simp, by simp⟩
      · rw [if_neg h3]; exact ⟨hw h1, by simp, by simp⟩
    rw [if_neg h1] at h ⊢
    by_cases h2 : isD c = true
    · rw [if_pos h2] at h ⊢
      by_cases h3 : (numOk ((c :: r).take ((c :: r).takeWhile isD).length) && !headL ((c :: r).drop ((c :: r).takeWhile isD).length)) = true
      · rw [if_pos h3]; exact ⟨hd h2, by simp, by simp⟩
      · rw [if_neg h3] at h; cases h
    rw [if_neg h2] at h ⊢
    by_cases h3 : c.toNat = 34
    · rw [if_pos h3] at h ⊢
      cases hq : quo r with
      | none => rw [hq] at h; cases h
      | some z =>
        obtain ⟨t, n⟩ := z
        have := quo_le hq
        exact ⟨by simp only; omega, by simp, by simp⟩
    rw [if_neg h3] at h ⊢
    by_cases h4 : sgn (c :: r) = 0
    · rw [if_pos h4] at h; cases h
    · rw [if_neg h4]; exact ⟨by simp only; omega, by simp, by simp⟩
def nx (l : List UInt8) (i : Nat) : Nat × Nat × Nat × Nat :=
  if i + gapL false (l.drop i) = l.length then (0, l.length, l.length, 0)
  else if (tok (l.drop (i + gapL false (l.drop i)))).2.2 = 0 then ((tok (l.drop (i + gapL false (l.drop i)))).1, i + gapL false (l.drop i), i + gapL false (l.drop i) + (tok (l.drop (i + gapL false (l.drop i)))).2.1, 0)
  else (0, i + gapL false (l.drop i), 0, (tok (l.drop (i + gapL false (l.drop i)))).2.2)
def cast4 (x : Nat × Nat × Nat × Nat) : Int × Int × Int × Int := (x.1, x.2.1, x.2.2.1, x.2.2.2)
theorem nxt_nx (l : List UInt8) (i : Nat) : nxt l i = cast4 (nx l i) := by
  unfold nxt nx
  generalize i + gapL false (l.drop i) = g
  simp only
  by_cases h : g = l.length
  · rw [if_pos h, if_pos h, h]; rfl
  rw [if_neg h, if_neg h]
  unfold tokR
  by_cases h2 : (tok (l.drop g)).2.2 = 0
  · rw [if_pos h2, if_pos h2]; rfl
  · rw [if_neg h2, if_neg h2]; rfl
theorem nx_adv (l : List UInt8) (i : Nat) (hi : i ≤ l.length) (he : (nx l i).2.2.2 = 0) (hk : (nx l i).1 ≠ 0) :
    i < (nx l i).2.2.1 ∧ (nx l i).2.2.1 ≤ l.length := by
  unfold nx at *
  have hg := gapL_le (l.drop i) false
  rw [List.length_drop] at hg
  generalize hgg : i + gapL false (l.drop i) = g at *
  by_cases h : g = l.length
  · rw [if_pos h] at hk; exact absurd rfl hk
  rw [if_neg h] at he hk ⊢
  by_cases h2 : (tok (l.drop g)).2.2 = 0
  · rw [if_pos h2]
    have := tok_ok _ h2
    have h3 := tok_le (l.drop g)
    rw [List.length_drop] at h3
    simp only
    omega
  · rw [if_neg h2] at hk; exact absurd rfl hk
def alls : Nat → List UInt8 → Nat → List S24 × Nat × Nat
  | 0, _, _ => ([], 0, 0)
  | f + 1, l, i =>
    if (nx l i).2.2.2 = 0 then
      if (nx l i).1 = 0 then ([⟨((nx l i).1 : Int), ((nx l i).2.1 : Int), ((nx l i).2.2.1 : Int)⟩], 0, 0)
      else (⟨((nx l i).1 : Int), ((nx l i).2.1 : Int), ((nx l i).2.2.1 : Int)⟩ :: (alls f l (nx l i).2.2.1).1, (alls f l (nx l i).2.2.1).2)
    else ([], (nx l i).2.2.2, (nx l i).2.1)
def resL (acc : List S24) (x : List S24 × Nat × Nat) : List S24 × Int × Int := if x.2.1 = 0 then (acc ++ x.1, 0, 0) else ([], (x.2.1 : Int), (x.2.2 : Int))
def resR (acc : List S24) (x : List S24 × Nat × Nat) : List S24 × Int × Int := (acc ++ x.1, (x.2.1 : Int), (x.2.2 : Int))
theorem lall_loop (s : ByteArray) (hs : s.size ≤ 65536) : ∀ (f : Nat) (acc : List S24) (i : Nat), i ≤ s.size → s.size - i < f → acc.length ≤ i →
    Ev (fun k => lex_All.l0 k s acc i) (resL acc (alls f (L s) i))
  | 0, acc, i, hi, hf, ha => by omega
  | f + 1, acc, i, hi, hf, ha => by
    have hn := lnext s (by omega) i
    unfold nxtI at hn
    rw [if_neg (by omega), if_neg (by omega), Int.toNat_natCast, nxt_nx] at hn
    have hadv := nx_adv (L s) i (by rw [L_length]; exact hi)
    rw [L_length] at hadv
    refine Ev.step (fun k => lex_All.l0.eq_2 _ _ _ k) (Ev.bind hn ?_)
    unfold alls
    generalize nx (L s) i = x at *
    obtain ⟨x1, x2, x3, x4⟩ := x
    simp only [cast4] at hadv ⊢
    by_cases he : x4 = 0
    · refine Ev.ite_pos (by omega) (Ev.ite_pos (by omega) (Ev.bind_now rfl ?_))
      rw [if_pos he]
      by_cases hk : x1 = 0
      · refine Ev.ite_pos (by omega) (Ev.some_ ?_)
        rw [if_pos hk]; rfl
      · refine Ev.ite_neg (by omega) ?_
        rw [if_neg hk]
        obtain ⟨a1, a2⟩ := hadv he hk
        refine (lall_loop s hs f _ x3 a2 (by omega) (by rw [List.length_append]; show acc.length + 1 ≤ x3; omega)).eq ?_
        unfold resL
        simp only
        split
        · rw [List.append_assoc]; rfl
        · rfl
    · refine Ev.ite_neg (by omega) (Ev.some_ ?_)
      rw [if_neg he]
      unfold resL
      simp only
      rw [if_neg he]
theorem rall_loop (s : ByteArray) (hs : s.size ≤ 65536) : ∀ (f : Nat) (acc : List S24) (i : Nat), i ≤ s.size → s.size - i < f → acc.length ≤ i →
    Ev (fun k => treadleref12_All.l0 k s acc i) (resR acc (alls f (L s) i))
  | 0, acc, i, hi, hf, ha => by omega
  | f + 1, acc, i, hi, hf, ha => by
    have hn := nextTok s (by omega) _ (gap_le s i hi)
    have hx : (if i + gapL false ((L s).drop i) = (L s).length then ((0 : Int), ((i + gapL false ((L s).drop i) : Nat) : Int), ((i + gapL false ((L s).drop i) : Nat) : Int), (0 : Int)) else tokR (i + gapL false ((L s).drop i)) (tok ((L s).drop (i + gapL false ((L s).drop i))))) = nxt (L s) i := rfl
    rw [hx, nxt_nx] at hn
    have hadv := nx_adv (L s) i (by rw [L_length]; exact hi)
    rw [L_length] at hadv
    refine Ev.step (fun k => treadleref12_All.l0.eq_2 _ _ _ k) (Ev.bind (rgap s (by omega) i) (Ev.bind hn ?_))
    clear hx
    unfold alls
    generalize nx (L s) i = x at *
    obtain ⟨x1, x2, x3, x4⟩ := x
    simp only [cast4] at hadv ⊢
    by_cases he : x4 = 0
    · refine Ev.ite_pos (by omega) (Ev.ite_pos (by omega) (Ev.bind_now rfl ?_))
      rw [if_pos he]
      by_cases hk : x1 = 0
      · refine Ev.ite_pos (by omega) (Ev.some_ ?_)
        rw [if_pos hk]; rfl
      · refine Ev.ite_neg (by omega) ?_
        rw [if_neg hk]
        obtain ⟨a1, a2⟩ := hadv he hk
        refine (rall_loop s hs f _ x3 a2 (by omega) (by rw [List.length_append]; show acc.length + 1 ≤ x3; omega)).eq ?_
        unfold resR
        simp only
        rw [List.append_assoc]; rfl
    · refine Ev.ite_neg (by omega) (Ev.some_ ?_)
      rw [if_neg he]
      unfold resR
      simp
def allT (s : ByteArray) : List S24 × Nat × Nat := if s.size > 65536 then ([], 3, 0) else alls (s.size + 1) (L s) 0
theorem lall (s : ByteArray) (hs : s.size ≤ 1048576) : Ev (fun k => lex_All.f k s) (resL [] (allT s)) := by
  unfold lex_All.f allT
  by_cases h : s.size > 65536
  · rw [if_pos h]
    have hn := lnext s hs 0
    unfold nxtI at hn
    rw [if_pos h] at hn
    exact Ev.step (fun k => lex_All.l0.eq_2 _ _ _ k) (Ev.bind hn (Ev.ite_neg (by decide) (Ev.some_ rfl)))
  · rw [if_neg h]
    exact lall_loop s (by omega) _ [] 0 (by omega) (by omega) (by simp)
theorem rall (s : ByteArray) (hs : s.size ≤ 1048576) : Ev (fun k => treadleref12_All.f k s) (resR [] (allT s)) := by
  unfold treadleref12_All.f allT
  by_cases h : s.size > 65536
  · rw [if_pos h]
    exact Ev.ite_pos (by omega) (Ev.some_ rfl)
  · rw [if_neg h]
    exact Ev.ite_neg (by omega) (rall_loop s (by omega) _ [] 0 (by omega) (by omega) (by simp))
def just (l : List UInt8) (k : Nat) : Bool := decide (l ≠ []) && decide ((tok l).2.2 = 0) && decide ((tok l).1 = k) && decide ((tok l).2.1 = l.length)
theorem ljust (s : ByteArray) (hs : s.size ≤ 1048576) (m : Nat) : Ev (fun k => lex_just.f k s m) (just (L s) m) := by
  unfold lex_just.f just
  by_cases h : L s = []
  · exact Ev.ite_pos (by rw [toList_L, h]) (Ev.some_ (by rw [h]; simp))
  refine Ev.ite_neg (by rw [toList_L]; exact h) (Ev.bind (ltoken s hs h) ?_)
  rw [L_length]
  generalize tok (L s) = x
  obtain ⟨x1, x2, x3⟩ := x
  simp only [tokI]
  by_cases h1 : x3 = 0
  · refine Ev.ite_pos (by omega) ?_
    by_cases h2 : x1 = m
    · refine Ev.ite_pos (by omega) (Ev.some_ ?_)
      rw [decide_eq_true h, decide_eq_true h1, decide_eq_true h2, Bool.eq_iff_iff]
      simp
      omega
    · exact Ev.ite_neg (by omega) (Ev.some_ (by simp [h2]))
  · exact Ev.ite_neg (by omega) (Ev.some_ (by simp [h1]))
theorem awake : Ev (fun k => treadlelaw12_awake.f k) true := by
  unfold treadlelaw12_awake.f
  have hall := lall (⟨#[97, 60, 61, 98, 32, 47, 47, 32, 120]⟩ : ByteArray) (by decide)
  refine Ev.bind hall ?_
  have e : resL [] (allT (⟨#[97, 60, 61, 98, 32, 47, 47, 32, 120]⟩ : ByteArray)) = ([⟨1, 0, 1⟩, ⟨5, 1, 3⟩, ⟨1, 3, 4⟩, ⟨0, 9, 9⟩], 0, 0) := by
    unfold resL
    rw [if_pos (by decide +kernel)]
    simp only [Prod.mk.injEq, and_true]
    rfl
  rw [e]
  refine Ev.ite_pos rfl (Ev.ite_pos (by decide) (Ev.ite_pos (by decide) (Ev.ite_pos (by decide) ?_)))
  refine Ev.bind_now (lkey _) (Ev.ite_pos (by decide) ?_)
  unfold lex_Word.f
  have hw := ljust (⟨#[120, 49]⟩ : ByteArray) (by decide) 1
  have ew : just (L (⟨#[120, 49]⟩ : ByteArray)) 1 = true := by decide +kernel
  rw [ew] at hw
  exact Ev.bind (Ev.bind hw (Ev.some_ rfl)) (Ev.some_ rfl)
theorem LexNexts (src : ByteArray) (at_ : Int) (hs : src.size ≤ 1048576) : Ev (fun k => treadlelaw12_LexNexts.f k src at_) true := by
  unfold treadlelaw12_LexNexts.f
  refine Ev.bind (lnext src hs at_) (Ev.bind (rnext src hs at_) ?_)
  exact Ev.ite_pos (by simp) (Ev.ite_pos rfl (Ev.bind awake (Ev.some_ rfl)))
theorem same_loop (a : List S24) (ha : a.length ≤ 1048576) : ∀ (r : List S24) (i : Nat), a.drop i = r → Ev (fun k => treadleref12_Same.l0 k a a i) true
  | [], i, h => by
    have := drop_none h
    exact Ev.step (fun k => treadleref12_Same.l0.eq_2 _ _ _ k) (Ev.ite_neg (by omega) (Ev.some_ rfl))
  | c :: r, i, h => by
    have hi := (drop_some h).1
    refine Ev.step (fun k => treadleref12_Same.l0.eq_2 _ _ _ k) (Ev.ite_pos (by omega) (Ev.ite_pos (by omega) (Ev.ite_pos (by omega) (Ev.ite_neg (by simp) ?_))))
    rw [wrap_succ (by omega)]
    exact same_loop a ha r (i + 1) (drop_some h).2.2
theorem same (a : List S24) (ha : a.length ≤ 1048576) : Ev (fun k => treadleref12_Same.f k a a) true := by
  unfold treadleref12_Same.f
  exact Ev.ite_pos rfl (same_loop a ha a 0 rfl)
theorem alls_len (l : List UInt8) : ∀ (f i : Nat), i ≤ l.length → (alls f l i).1.length ≤ l.length - i + 1 ∧ (alls f l i).2.2 ≤ l.length ∧ ((alls f l i).2.1 = 0 → (alls f l i).2.2 = 0)
  | 0, i, hi => by simp [alls]
  | f + 1, i, hi => by
    have hadv := nx_adv l i hi
    have hg := gapL_le (l.drop i) false
    rw [List.length_drop] at hg
    have hn2 : (nx l i).2.1 ≤ l.length := by
      unfold nx
      split
      · exact Nat.le_refl _
      · split
        · simp only; omega
        · simp only; omega
    unfold alls
    generalize nx l i = x at *
    obtain ⟨x1, x2, x3, x4⟩ := x
    simp only at hadv hn2 ⊢
    by_cases he : x4 = 0
    · rw [if_pos he]
      by_cases hk : x1 = 0
      · rw [if_pos hk]; simp
      · rw [if_neg hk]
        obtain ⟨a1, a2⟩ := hadv he hk
        obtain ⟨b1, b2, b3⟩ := alls_len l f x3 a2
        refine ⟨?_, b2, b3⟩
        rw [List.length_cons]; omega
    · rw [if_neg he]; exact ⟨by simp, hn2, fun h => absurd h he⟩
theorem allT_len (s : ByteArray) (hs : s.size ≤ 1048576) : (allT s).1.length ≤ 65537 ∧ ((allT s).2.1 = 0 → (allT s).2.2 = 0) := by
  unfold allT
  by_cases h : s.size > 65536
  · rw [if_pos h]; exact ⟨by simp, fun h => by cases h⟩
  · rw [if_neg h]
    have := alls_len (L s) (s.size + 1) 0 (by omega)
    rw [L_length] at this
    exact ⟨by omega, this.2.2⟩
theorem LexAlls (src : ByteArray) (hs : src.size ≤ 1048576) : Ev (fun k => treadlelaw12_LexAlls.f k src) true := by
  unfold treadlelaw12_LexAlls.f
  refine Ev.bind (lall src hs) (Ev.bind (rall src hs) ?_)
  obtain ⟨h1, h2⟩ := allT_len src hs
  generalize allT src = x at *
  obtain ⟨t, w, p⟩ := x
  simp only at h1 h2
  unfold resL resR
  simp only [List.nil_append]
  by_cases hw : w = 0
  · have hp := h2 hw
    subst hw; subst hp
    simp only [if_pos]
    refine Ev.ite_neg (by decide) (Ev.ite_neg (by decide) (Ev.bind (same t (by omega)) (Ev.ite_pos rfl (Ev.bind awake (Ev.some_ rfl)))))
  · rw [if_neg hw]
    refine Ev.ite_neg (by simp) (Ev.ite_pos ?_ (Ev.ite_pos rfl (Ev.bind awake (Ev.some_ rfl))))
    simp; omega
end Go.Proofs.YtflmcglppeehgaaDoor.Pure
