import Derived.Test.YtflmcglppeehgaaDoorTLexAll
namespace Go.Proofs.YtflmcglppeehgaaDoor.Pure
open Go.RowKit Go.Proofs.YtflmcglppeehgaaDoor.P Go.Proofs.YtflmcglppeehgaaDoor.Base Go.Proofs.YtflmcglppeehgaaDoorW.PrintWords Go.Proofs.YtflmcglppeehgaaDoorW.PrintLast Go.Proofs.YtflmcglppeehgaaDoorW.PrintMore
set_option linter.unusedVariables false
set_option linter.unusedSimpArgs false
theorem tw_cut (p : UInt8 → Bool) : ∀ (l : List UInt8) (m : Nat), (l.takeWhile p).length ≤ m → (l.take m).takeWhile p = l.takeWhile p
  | [], m, _ => by simp
  | c :: r, 0, h => by
    rw [List.takeWhile_cons] at h ⊢
    cases hc : p c with
    | true => rw [hc] at h; simp at h
    | false => simp
  | c :: r, m + 1, h => by
    rw [List.take_succ_cons, List.takeWhile_cons, List.takeWhile_cons]
    rw [List.takeWhile_cons] at h
    cases hc : p c with
    | true =>
      rw [hc] at h
      simp only [if_true, List.length_cons] at h
      rw [if_pos rfl, if_pos rfl, tw_cut p r m (by omega)]
    | false => rfl
theorem pc_cut {l : List UInt8} {b : UInt8} {n m : Nat} (h : pc l = some (b, n)) (hm : n ≤ m) : pc (l.take m) = some (b, n) := by
  cases l with
  | nil => cases h
  | cons c r =>
    have hp := (pc_pos h).1
    obtain ⟨m, rfl⟩ : ∃ m', m = m' + 1 := ⟨m - 1, by omega⟩
    rw [List.take_succ_cons]
    simp only [pc] at h ⊢
    by_cases h1 : c.toNat = 92
    · rw [if_pos h1] at h ⊢
      cases r with
      | nil => cases h
      | cons d r =>
        simp only at h
        by_cases d1 : d.toNat = 110
        · rw [if_pos d1] at h
          have h0 := h
          injection h with h'; injection h' with _ h3
          obtain ⟨m, rfl⟩ : ∃ m', m = m' + 1 := ⟨m - 1, by omega⟩
          rw [List.take_succ_cons]; simp only; rw [if_pos d1]; exact h0
        rw [if_neg d1] at h
        by_cases d2 : d.toNat = 116
        · rw [if_pos d2] at h
          have h0 := h
          injection h with h'; injection h' with _ h3
          obtain ⟨m, rfl⟩ : ∃ m', m = m' + 1 := ⟨m - 1, by omega⟩
          rw [List.take_succ_cons]; simp only; rw [if_neg d1, if_pos d2]; exact h0
        rw [if_neg d2] at h
        by_cases d3 : d.toNat = 34 ∨ d.toNat = 92
        · rw [if_pos d3] at h
          have h0 := h
          injection h with h'; injection h' with _ h3
          obtain ⟨m, rfl⟩ : ∃ m', m = m' + 1 := ⟨m - 1, by omega⟩
          rw [List.take_succ_cons]; simp only; rw [if_neg d1, if_neg d2, if_pos d3]; exact h0
        rw [if_neg d3] at h
        by_cases d4 : d.toNat = 120
        · rw [if_pos d4] at h
          match r, h with
          | [], h => cases h
          | [a], h => cases h
          | a :: b' :: r, h =>
            have h0 := h
            simp only at h
            split at h
            · injection h with h'; injection h' with _ h3
              obtain ⟨m, rfl⟩ : ∃ m', m = m' + 3 := ⟨m - 3, by omega⟩
              rw [List.take_succ_cons, List.take_succ_cons, List.take_succ_cons]
              simp only
              rw [if_neg d1, if_neg d2, if_neg d3, if_pos d4]; exact h0
            · cases h
        · rw [if_neg d4] at h; cases h
    · rw [if_neg h1] at h ⊢; exact h
theorem ql_cut : ∀ (f : Nat) (l t : List UInt8) (q m : Nat), ql f l = some (t, q) → q ≤ m → ql f (l.take m) = some (t, q)
  | 0, l, t, q, m, h, _ => by cases h
  | f + 1, [], t, q, m, h, _ => by cases h
  | f + 1, c :: r, t, q, m, h, hm => by
    have hq := ql_le _ _ _ _ h
    obtain ⟨m, rfl⟩ : ∃ m', m = m' + 1 := ⟨m - 1, by omega⟩
    rw [List.take_succ_cons]
    unfold ql at h ⊢
    by_cases h1 : c.toNat = 34
    · rw [if_pos h1] at h ⊢; exact h
    rw [if_neg h1] at h ⊢
    cases hp : pc (c :: r) with
    | none => rw [hp] at h; cases h
    | some z =>
      obtain ⟨b, n⟩ := z
      rw [hp] at h
      simp only at h
      cases hx : ql f ((c :: r).drop n) with
      | none => rw [hx] at h; cases h
      | some z =>
        obtain ⟨t', q'⟩ := z
        rw [hx] at h
        simp only at h
        injection h with h'; injection h' with h1' h2'
        have hp' := pc_cut (m := m + 1) hp (by omega)
        rw [List.take_succ_cons] at hp'
        rw [hp']
        simp only
        have ih := ql_cut f _ t' q' (m + 1 - n) hx (by omega)
        have e : (c :: r.take m).drop n = ((c :: r).drop n).take (m + 1 - n) := by
          rw [← List.take_succ_cons, List.drop_take]
        rw [e, ih]
        simp only
        rw [h1', h2']
theorem quo_cut {r t : List UInt8} {n m : Nat} (h : quo r = some (t, n)) (hm : n ≤ m + 1) : quo (r.take m) = some (t, n) := by
  unfold quo at h ⊢
  cases hx : ql (r.length + 1) r with
  | none => rw [hx] at h; cases h
  | some z =>
    obtain ⟨t', q⟩ := z
    rw [hx] at h
    simp only at h
    split at h
    · rename_i hle
      injection h with h'; injection h' with h1 h2
      have hc := ql_cut _ _ _ _ m hx (by omega)
      rw [ql_fuel (r.length + 1) ((r.take m).length + 1) (r.take m) (by rw [List.length_take]; omega) (by omega)] at hc
      rw [hc]
      simp only
      rw [if_pos hle, h1, h2]
    · cases h
theorem tok_cut (l : List UInt8) (m : Nat) (h : (tok l).2.2 = 0) (hm : (tok l).2.1 ≤ m) : tok (l.take m) = tok l := by
  have hpos := (tok_ok l h).1
  cases l with
  | nil => cases h
  | cons c r =>
    obtain ⟨m, rfl⟩ : ∃ m', m = m' + 1 := ⟨m - 1, by omega⟩
    rw [List.take_succ_cons]
    show tokC c (r.take m) = tokC c r
    change (tokC c r).2.2 = 0 at h
    change (tokC c r).2.1 ≤ m + 1 at hm
    have et : c :: r.take m = (c :: r).take (m + 1) := by rw [List.take_succ_cons]
    unfold tokC at h hm ⊢
    rw [et]
    by_cases h1 : isL c = true
    · rw [if_pos h1] at h hm ⊢
      rw [if_pos h1]
      have hle : ((c :: r).takeWhile isW).length ≤ m + 1 := by
        by_cases h2 : 32 < ((c :: r).takeWhile isW).length
        · rw [if_pos h2] at h; cases h
        rw [if_neg h2] at hm
        split at hm <;> exact hm
      rw [tw_cut isW _ _ hle, List.take_take, Nat.min_eq_left hle]
    rw [if_neg h1] at h hm ⊢
    rw [if_neg h1]
    by_cases h2 : isD c = true
    · rw [if_pos h2] at h hm ⊢
      rw [if_pos h2]
      by_cases h3 : (numOk ((c :: r).take ((c :: r).takeWhile isD).length) && !headL ((c :: r).drop ((c :: r).takeWhile isD).length)) = true
      · rw [if_pos h3] at hm ⊢
        simp only at hm
        rw [tw_cut isD _ _ hm, List.take_take, Nat.min_eq_left hm]
        generalize ((c :: r).takeWhile isD).length = n at *
        rw [Bool.and_eq_true] at h3
        have hh : headL (((c :: r).take (m + 1)).drop n) = false := by
          rw [List.drop_take]
          have h4 := h3.2
          cases hd : (c :: r).drop n with
          | nil => simp [headL]
          | cons d u =>
            rw [hd] at h4
            simp only [headL, Bool.not_eq_true'] at h4
            cases m + 1 - n with
            | zero => simp [headL]
            | succ q => rw [List.take_succ_cons]; simp only [headL]; exact h4
        rw [hh, h3.1]; rfl
      · rw [if_neg h3] at h; cases h
    rw [if_neg h2] at h hm ⊢
    rw [if_neg h2]
    by_cases h3 : c.toNat = 34
    · rw [if_pos h3] at h hm ⊢
      rw [if_pos h3]
      cases hq : quo r with
      | none => rw [hq] at h; cases h
      | some z =>
        obtain ⟨t, n⟩ := z
        rw [hq] at hm
        rw [quo_cut hq hm]
    rw [if_neg h3] at h hm ⊢
    rw [if_neg h3]
    by_cases h4 : sgn (c :: r) = 0
    · rw [if_pos h4] at h; cases h
    rw [if_neg h4] at hm ⊢
    have e : sgn ((c :: r).take (m + 1)) = sgn (c :: r) := by
      simp only at hm
      unfold sgn at hm h4 ⊢
      by_cases ht : (c :: r).take 2 ∈ twoSigns
      · rw [if_pos ht] at hm ⊢
        rw [List.take_take, Nat.min_eq_left hm, if_pos ht]
      · rw [if_neg ht] at hm h4 ⊢
        have ht2 : ¬ ((c :: r).take (m + 1)).take 2 ∈ twoSigns := by
          rw [List.take_take]
          intro hx
          have := two_len _ hx
          rw [List.length_take] at this
          have hmin : min 2 (m + 1) = 2 := by omega
          rw [hmin] at hx; exact ht hx
        rw [if_neg ht2, List.take_succ_cons]
    rw [e, if_neg h4]
theorem nx_from (l : List UInt8) (i : Nat) : (nx l i).2.1 = i + gapL false (l.drop i) := by
  unfold nx
  split
  · rename_i h; exact h.symm
  · split <;> rfl
theorem nx_end (l : List UInt8) (i : Nat) (he : (nx l i).2.2.2 = 0) (hk : (nx l i).1 = 0) : (nx l i).2.1 = l.length ∧ (nx l i).2.2.1 = l.length := by
  unfold nx at *
  by_cases h : i + gapL false (l.drop i) = l.length
  · rw [if_pos h]; exact ⟨rfl, rfl⟩
  rw [if_neg h] at he hk
  by_cases h2 : (tok (l.drop (i + gapL false (l.drop i)))).2.2 = 0
  · rw [if_pos h2] at hk
    have := (tok_ok _ h2).2.1
    simp only at hk; omega
  · rw [if_neg h2] at he; exact absurd he h2
theorem nx_tok (l : List UInt8) (i : Nat) (he : (nx l i).2.2.2 = 0) (hk : (nx l i).1 ≠ 0) :
    gapL false (l.drop (nx l i).2.1) = 0 ∧ (nx l i).2.1 < (nx l i).2.2.1 ∧ tok (l.drop (nx l i).2.1) = ((nx l i).1, (nx l i).2.2.1 - (nx l i).2.1, 0) := by
  have hga := gapL_after (l.drop i) false
  rw [List.drop_drop] at hga
  unfold nx at *
  generalize i + gapL false (l.drop i) = g at *
  by_cases h : g = l.length
  · rw [if_pos h] at hk; exact absurd rfl hk
  rw [if_neg h] at he hk ⊢
  by_cases h2 : (tok (l.drop g)).2.2 = 0
  · rw [if_pos h2]
    have h3 := (tok_ok _ h2).1
    refine ⟨hga, by simp only; omega, ?_⟩
    simp only
    generalize tok (l.drop g) = z at *
    obtain ⟨z1, z2, z3⟩ := z
    simp only at h2 h3 ⊢
    subst h2
    simp
  · rw [if_neg h2] at he; exact absurd he h2
theorem nx_cut (l : List UInt8) (i p : Nat) (hp : p ≤ l.length) (he : (nx l i).2.2.2 = 0) (hk : (nx l i).1 ≠ 0) (hb : (nx l i).2.2.1 ≤ p) (hi : i ≤ l.length) : nx (l.take p) i = nx l i := by
  have h1 := nx_from l i
  obtain ⟨h2, h3, h4⟩ := nx_tok l i he hk
  have hlen : (l.take p).length = p := by rw [List.length_take]; omega
  have hg : gapL false ((l.take p).drop i) = gapL false (l.drop i) := by
    rw [List.drop_take]; exact gapL_cut _ _ _ (by omega)
  have ht : tok ((l.take p).drop (i + gapL false (l.drop i))) = tok (l.drop (i + gapL false (l.drop i))) := by
    rw [← h1, List.drop_take]
    exact tok_cut _ _ (by rw [h4]) (by rw [h4]; simp only; omega)
  have hne : ¬ i + gapL false (l.drop i) = l.length := by
    have := (nx_adv l i hi he hk).2; omega
  have : ¬ i + gapL false (l.drop i) = p := by omega
  unfold nx
  rw [hg, ht, hlen, if_neg hne, if_neg this]
def IsTok (l : List UInt8) (x : S24) : Prop := x.f0 = 0 ∨ ∃ k a b : Nat, x = ⟨k, a, b⟩ ∧ 1 ≤ k ∧ a < b ∧ b ≤ l.length ∧ gapL false (l.drop a) = 0 ∧ tok (l.drop a) = (k, b - a, 0)
theorem alls_tok (l : List UInt8) : ∀ (f i : Nat), i ≤ l.length → ∀ x ∈ (alls f l i).1, IsTok l x
  | 0, i, hi, x, hx => by cases hx
  | f + 1, i, hi, x, hx => by
    unfold alls at hx
    by_cases he : (nx l i).2.2.2 = 0
    · rw [if_pos he] at hx
      by_cases hk : (nx l i).1 = 0
      · rw [if_pos hk] at hx
        simp only [List.mem_singleton] at hx
        subst hx
        exact Or.inl (by simp only; omega)
      · rw [if_neg hk] at hx
        have hadv := nx_adv l i hi he hk
        rcases List.mem_cons.mp hx with hx | hx
        · obtain ⟨h2, h3, h4⟩ := nx_tok l i he hk
          exact Or.inr ⟨_, _, _, hx, by omega, h3, hadv.2, h2, h4⟩
        · exact alls_tok l f _ hadv.2 x hx
    · rw [if_neg he] at hx; cases hx
theorem alls_ne (l : List UInt8) (f i : Nat) (hf : l.length - i < f) (hw : (alls f l i).2.1 = 0) : (alls f l i).1 ≠ [] := by
  cases f with
  | zero => omega
  | succ f =>
    unfold alls at hw ⊢
    by_cases he : (nx l i).2.2.2 = 0
    · rw [if_pos he]
      split <;> simp
    · rw [if_neg he] at hw; exact absurd hw he
theorem rd_drop {xs : List S24} {j : Nat} {x : S24} {r : List S24} (h : xs.drop j = x :: r) : rd_T24 xs (j : Int) = x := by
  unfold rd_T24
  have e : ((j : Int)).toNat = j := by omega
  rw [e]; exact (drop_some h).2.1 _
theorem lost_loop (s : ByteArray) (hs : s.size ≤ 65536) (toks : List S24) (hT : toks.length ≤ 65537) : ∀ (f i j : Nat), i ≤ s.size → s.size - i < f → (alls f (L s) i).2.1 = 0 → toks.drop j = (alls f (L s) i).1 →
    Ev (fun k => treadlelaw12_LexLost.l0 k s toks i j) true
  | 0, i, j, hi, hf, hw, hd => by omega
  | f + 1, i, j, hi, hf, hw, hd => by
    have hfrom := nx_from (L s) i
    have hend := nx_end (L s) i
    have hadv := nx_adv (L s) i (by rw [L_length]; exact hi)
    have htk := nx_tok (L s) i
    rw [L_length] at hend hadv
    unfold alls at hw hd
    by_cases he : (nx (L s) i).2.2.2 = 0
    · rw [if_pos he] at hw hd
      by_cases hk : (nx (L s) i).1 = 0
      · rw [if_pos hk] at hd
        obtain ⟨e1, e2⟩ := hend he hk
        have hj := (drop_some hd).1
        have hj2 := drop_none (drop_some hd).2.2
        have hrd := rd_drop hd
        have hlen : toks.length = j + 1 := by omega
        refine Ev.step (fun k => treadlelaw12_LexLost.l0.eq_2 _ _ _ _ k) (Ev.ite_pos (by omega) (Ev.ite_pos (by omega) (Ev.bind (rgap s (by omega) i) ?_)))
        rw [hrd]
        simp only
        rw [wrap_id (i := (toks.length : Int) - 1) (by omega) (by omega), wrap_succ (i := j) (by omega), hk, e1, e2]
        refine Ev.ite_pos (by omega) (Ev.ite_neg (by omega) (Ev.ite_neg (by omega) (Ev.ite_neg ?_ ?_)))
        · have : ((j : Int) == (toks.length : Int) - 1) = true := by rw [beq_iff_eq]; omega
          rw [this]; simp
        · refine Ev.step (fun k => treadlelaw12_LexLost.l0.eq_2 _ _ _ _ k) (Ev.ite_neg (by omega) (Ev.ite_pos rfl (Ev.ite_pos (by omega) (Ev.bind awake (Ev.some_ rfl)))))
      · rw [if_neg hk] at hd hw
        obtain ⟨a1, a2⟩ := hadv he hk
        obtain ⟨_, b1, _⟩ := htk he hk
        have hj := (drop_some hd).1
        have hrd := rd_drop hd
        have hne := alls_ne (L s) f (nx (L s) i).2.2.1 (by rw [L_length]; omega) hw
        have hrest := (drop_some hd).2.2
        have hlen : j + 1 < toks.length := by
          rcases Nat.lt_or_ge (j + 1) toks.length with h1 | h1
          · exact h1
          · rw [List.drop_eq_nil_of_le h1] at hrest; exact absurd hrest.symm hne
        refine Ev.step (fun k => treadlelaw12_LexLost.l0.eq_2 _ _ _ _ k) (Ev.ite_pos (by omega) (Ev.ite_pos (by omega) (Ev.bind (rgap s (by omega) i) ?_)))
        rw [hrd]
        simp only
        rw [wrap_id (i := (toks.length : Int) - 1) (by omega) (by omega), wrap_succ (i := j) (by omega)]
        refine Ev.ite_pos (by omega) (Ev.ite_neg (by omega) (Ev.ite_neg (by omega) (Ev.ite_neg ?_ ?_)))
        · have e1 : ((j : Int) == (toks.length : Int) - 1) = false := by rw [beq_eq_false_iff_ne]; omega
          have e2 : ((((nx (L s) i).1 : Nat) : Int) == 0) = false := by rw [beq_eq_false_iff_ne]; omega
          rw [e1, e2]; simp
        · exact lost_loop s hs toks hT f _ (j + 1) a2 (by omega) hw hrest
    · rw [if_neg he] at hw; exact absurd hw he
theorem LexLost (s : ByteArray) (hs : s.size ≤ 1048576) : Ev (fun k => treadlelaw12_LexLost.f k s) true := by
  unfold treadlelaw12_LexLost.f
  refine Ev.bind (lall s hs) ?_
  obtain ⟨h1, h2⟩ := allT_len s hs
  by_cases hw : (allT s).2.1 = 0
  · unfold resL
    rw [if_pos hw]
    simp only [List.nil_append]
    refine Ev.ite_neg (by decide) ?_
    unfold allT at hw h1 ⊢
    by_cases hz : s.size > 65536
    · rw [if_pos hz] at hw; cases hw
    rw [if_neg hz] at hw h1 ⊢
    exact lost_loop s (by omega) _ h1 _ 0 0 (by omega) (by omega) hw rfl
  · unfold resL
    rw [if_neg hw]
    refine Ev.ite_pos ?_ (Ev.bind awake (Ev.some_ rfl))
    simp; omega
theorem tok_err (l : List UInt8) : (tok l).2.2 = 0 ∨ (120 ≤ (tok l).2.2 ∧ (tok l).2.2 ≤ 123) := by
  cases l with
  | nil => exact Or.inr (by decide)
  | cons c r =>
    show (tokC c r).2.2 = 0 ∨ (120 ≤ (tokC c r).2.2 ∧ (tokC c r).2.2 ≤ 123)
    unfold tokC
    split
    · split
      · exact Or.inr (by simp)
      · split <;> exact Or.inl rfl
    · split
      · split
        · exact Or.inl rfl
        · exact Or.inr (by simp)
      · split
        · cases quo r with
          | none => exact Or.inr (by simp)
          | some z => obtain ⟨t, n⟩ := z; exact Or.inl rfl
        · split
          · exact Or.inr (by simp)
          · exact Or.inl rfl
theorem nx_err (l : List UInt8) (i : Nat) : (nx l i).2.2.2 = 0 ∨ (120 ≤ (nx l i).2.2.2 ∧ (nx l i).2.2.2 ≤ 123) := by
  unfold nx
  split
  · exact Or.inl rfl
  · split
    · exact Or.inl rfl
    · exact tok_err _
theorem alls_first (l : List UInt8) : ∀ (f i : Nat), i ≤ l.length → l.length - i < f → (alls f l i).2.1 ≠ 0 →
    i ≤ (alls f l i).2.2 ∧ (alls f l i).2.2 < l.length ∧ 120 ≤ (alls f l i).2.1 ∧ nx l (alls f l i).2.2 = (0, (alls f l i).2.2, 0, (alls f l i).2.1) ∧
      ∀ f', (alls f l i).2.2 - i < f' → (alls f' (l.take (alls f l i).2.2) i).2.1 = 0
  | 0, i, hi, hf, hw => by omega
  | f + 1, i, hi, hf, hw => by
    obtain ⟨R, hR⟩ : ∃ R, alls (f + 1) l i = R := ⟨_, rfl⟩
    rw [hR] at hw ⊢
    unfold alls at hR
    by_cases he : (nx l i).2.2.2 = 0
    · rw [if_pos he] at hR
      by_cases hk : (nx l i).1 = 0
      · rw [if_pos hk] at hR; subst hR; exact absurd rfl hw
      · rw [if_neg hk] at hR
        subst hR
        obtain ⟨a1, a2⟩ := nx_adv l i hi he hk
        obtain ⟨b1, b2, b3, b4, b5⟩ := alls_first l f (nx l i).2.2.1 a2 (by omega) hw
        simp only at hw ⊢
        generalize hp : (alls f l (nx l i).2.2.1).2.2 = p at *
        refine ⟨by omega, b2, b3, b4, fun f' hf' => ?_⟩
        cases f' with
        | zero => omega
        | succ f' =>
          have hc := nx_cut l i p (by omega) he hk b1 hi
          rw [alls.eq_2, hc, if_pos he, if_neg hk]
          exact b5 f' (by omega)
    · rw [if_neg he] at hR
      subst hR
      simp only at hw ⊢
      have hfrom := nx_from l i
      have herr := nx_err l i
      have hga := gapL_after (l.drop i) false
      rw [List.drop_drop, ← hfrom] at hga
      have hgl := gapL_le (l.drop i) false
      rw [List.length_drop] at hgl
      have hx : ¬ i + gapL false (l.drop i) = l.length := fun hx => by
        apply he; unfold nx; rw [if_pos hx]
      have hx2 : ¬ (tok (l.drop (i + gapL false (l.drop i)))).2.2 = 0 := fun h2 => by
        apply he; unfold nx; rw [if_neg hx, if_pos h2]
      have hw2 : (nx l i).2.2.2 = (tok (l.drop (i + gapL false (l.drop i)))).2.2 := by unfold nx; rw [if_neg hx, if_neg hx2]
      refine ⟨by omega, by omega, by omega, ?_, fun f' hf' => ?_⟩
      · rw [hw2]
        rw [hfrom] at hga ⊢
        generalize i + gapL false (l.drop i) = g at *
        unfold nx
        rw [hga, Nat.add_zero, if_neg hx, if_neg hx2]
      · rw [hfrom] at hf' ⊢
        cases f' with
        | zero => omega
        | succ f' =>
          have hlen : (l.take (i + gapL false (l.drop i))).length = i + gapL false (l.drop i) := by rw [List.length_take]; omega
          have hg : gapL false ((l.take (i + gapL false (l.drop i))).drop i) = gapL false (l.drop i) := by
            rw [List.drop_take]; exact gapL_cut _ _ _ (by omega)
          have hn : nx (l.take (i + gapL false (l.drop i))) i = (0, i + gapL false (l.drop i), i + gapL false (l.drop i), 0) := by
            unfold nx; rw [hg, hlen, if_pos rfl]
          unfold alls
          rw [hn]; rfl
theorem first_loop (s : ByteArray) (hs : s.size ≤ 65536) (toks : List S24) (hT : toks.length ≤ 65537) : ∀ (f i j : Nat), i ≤ s.size → s.size - i < f → (alls f (L s) i).2.1 = 0 → toks.drop j = (alls f (L s) i).1 →
    Ev (fun k => treadlelaw12_LexFirst.l0 k s toks i j) true
  | 0, i, j, hi, hf, hw, hd => by omega
  | f + 1, i, j, hi, hf, hw, hd => by
    have hn := lnext s (by omega) i
    unfold nxtI at hn
    rw [if_neg (by omega), if_neg (by omega), Int.toNat_natCast, nxt_nx] at hn
    have hadv := nx_adv (L s) i (by rw [L_length]; exact hi)
    rw [L_length] at hadv
    unfold alls at hw hd
    by_cases he : (nx (L s) i).2.2.2 = 0
    · rw [if_pos he] at hw hd
      have hgo : ∀ r, toks.drop j = ⟨((nx (L s) i).1 : Int), ((nx (L s) i).2.1 : Int), ((nx (L s) i).2.2.1 : Int)⟩ :: r →
          Ev (fun k => treadlelaw12_LexFirst.l0 k s toks ((nx (L s) i).2.2.1 : Int) ((j + 1 : Nat) : Int)) true → Ev (fun k => treadlelaw12_LexFirst.l0 k s toks i j) true := fun r hd hnx => by
        have hj := (drop_some hd).1
        have hrd := rd_drop hd
        refine Ev.step (fun k => treadlelaw12_LexFirst.l0.eq_2 _ _ _ _ k) (Ev.ite_pos (by omega) (Ev.bind hn (Ev.ite_pos ?_ (Ev.ite_pos (by omega) ?_))))
        · simp only [cast4]; rw [he]; rfl
        · rw [hrd, wrap_succ (i := j) (by omega)]
          exact Ev.ite_neg (by simp [cast4]) hnx
      by_cases hk : (nx (L s) i).1 = 0
      · rw [if_pos hk] at hd
        have hj2 := drop_none (drop_some hd).2.2
        refine hgo _ hd (Ev.step (fun k => treadlelaw12_LexFirst.l0.eq_2 _ _ _ _ k) (Ev.ite_neg (by omega) (Ev.bind awake (Ev.some_ rfl))))
      · rw [if_neg hk] at hd hw
        obtain ⟨a1, a2⟩ := hadv he hk
        exact hgo _ hd (first_loop s hs toks hT f _ (j + 1) a2 (by omega) hw (drop_some hd).2.2)
    · rw [if_neg he] at hw; exact absurd hw he
theorem LexFirst (s : ByteArray) (hs : s.size ≤ 1048576) : Ev (fun k => treadlelaw12_LexFirst.f k s) true := by
  unfold treadlelaw12_LexFirst.f
  refine Ev.bind (lall s hs) ?_
  by_cases hz : s.size > 65536
  · have e : resL [] (allT s) = ([], 3, 0) := by unfold allT; rw [if_pos hz]; rfl
    rw [e]
    exact Ev.ite_pos rfl (Ev.ite_pos (by omega) (Ev.ite_pos rfl (Ev.bind awake (Ev.some_ rfl))))
  have ea : allT s = alls (s.size + 1) (L s) 0 := by unfold allT; rw [if_neg hz]
  obtain ⟨h1, h2⟩ := allT_len s hs
  rw [ea] at h1 h2 ⊢
  by_cases hw : (alls (s.size + 1) (L s) 0).2.1 = 0
  · unfold resL
    rw [if_pos hw]
    simp only [List.nil_append]
    refine Ev.ite_neg (by decide) (Ev.ite_neg (by decide) ?_)
    exact first_loop s (by omega) _ h1 _ 0 0 (by omega) (by omega) hw rfl
  · obtain ⟨b1, b2, b3, b4, b5⟩ := alls_first (L s) (s.size + 1) 0 (by omega) (by rw [L_length]; omega) hw
    unfold resL
    rw [if_neg hw]
    rw [L_length] at b2
    generalize (alls (s.size + 1) (L s) 0).2.1 = w at *
    generalize (alls (s.size + 1) (L s) 0).2.2 = p at *
    simp only
    refine Ev.ite_neg (by omega) (Ev.ite_pos (by simp; omega) (Ev.ite_neg (by omega) ?_))
    have ed : decide ((p : Int) ≥ (s.size : Int)) = false := by rw [decide_eq_false_iff_not]; omega
    rw [ed]
    refine Ev.step (fun k => treadlelaw12_LexFirst.j0.eq_2 _ _ _ _ k) (Ev.ite_neg (by simp) (Ev.ite_pos (by omega) (Ev.ite_pos (by omega) ?_)))
    have ep : ((p : Int)).toNat = p := by omega
    have e0 : L (s.extract 0 p) = (L s).take p := by rw [L_extract]; simp
    have ez : (s.extract 0 p).size = p := by rw [size_eq_L, e0, List.length_take, L_length]; omega
    rw [ep]
    refine Ev.bind (lall (s.extract 0 p) (by omega)) ?_
    have hn := lnext s hs p
    unfold nxtI at hn
    rw [if_neg (by omega), if_neg (by omega), Int.toNat_natCast, nxt_nx, b4] at hn
    refine Ev.bind hn ?_
    have ea2 : allT (s.extract 0 p) = alls (p + 1) ((L s).take p) 0 := by unfold allT; rw [ez, if_neg (by omega), e0]
    have hw2 := b5 (p + 1) (by omega)
    have hne := alls_ne ((L s).take p) (p + 1) 0 (by rw [List.length_take, L_length]; omega) hw2
    rw [ea2]
    unfold resL
    rw [if_pos hw2]
    simp only [List.nil_append, cast4]
    have hpos : 0 < (alls (p + 1) ((L s).take p) 0).1.length := by
      cases hx : (alls (p + 1) ((L s).take p) 0).1 with
      | nil => exact absurd hx hne
      | cons _ _ => simp
    refine Ev.ite_pos (by decide) (Ev.ite_pos (by omega) (Ev.ite_pos (by simp) (Ev.ite_pos (by simp) (Ev.bind awake (Ev.some_ rfl)))))
theorem next_cut (s : ByteArray) (hs : s.size ≤ 65536) (k a b m : Nat) (hk : 1 ≤ k) (hab : a < b) (hb : b ≤ s.size) (hg : gapL false ((L s).drop a) = 0) (ht : tok ((L s).drop a) = (k, b - a, 0)) (hm : b ≤ m) (hms : m ≤ s.size) :
    Ev (fun q => lex_Next.f q (s.extract a m) 0) ((k : Int), 0, ((b - a : Nat) : Int), 0) := by
  have e0 : L (s.extract a m) = ((L s).drop a).take (m - a) := L_extract s a m
  have ez : (s.extract a m).size = m - a := by rw [size_eq_L, e0, List.length_take, List.length_drop, L_length]; omega
  have hn := lnext (s.extract a m) (by omega) (0 : Nat)
  unfold nxtI at hn
  rw [if_neg (by omega), if_neg (by omega), Int.toNat_natCast, nxt_nx] at hn
  refine hn.eq ?_
  rw [e0]
  have hgc : gapL false (((L s).drop a).take (m - a)) = 0 := by rw [gapL_cut _ _ _ (by omega)]; exact hg
  have htc : tok (((L s).drop a).take (m - a)) = (k, b - a, 0) := by rw [tok_cut _ _ (by rw [ht]) (by rw [ht]; simp only; omega)]; exact ht
  have hlen : (((L s).drop a).take (m - a)).length = m - a := by rw [List.length_take, List.length_drop, L_length]; omega
  unfold nx
  rw [List.drop_zero, hgc, List.drop_zero, htc, hlen, if_neg (by omega), if_pos rfl]
  simp only [cast4]
  simp
theorem munch_loop (s : ByteArray) (hs : s.size ≤ 65536) (toks : List S24) (hT : toks.length ≤ 65537) (hI : ∀ x ∈ toks, IsTok (L s) x) : ∀ (r : List S24) (j : Nat), toks.drop j = r → Ev (fun k => treadlelaw12_LexMunch.l0 k s toks j) true
  | [], j, h => by
    have := drop_none h
    exact Ev.step (fun k => treadlelaw12_LexMunch.l0.eq_2 _ _ _ k) (Ev.ite_neg (by omega) (Ev.bind awake (Ev.some_ rfl)))
  | x :: r, j, h => by
    have hj := (drop_some h).1
    have hrd := rd_drop h
    have ih := munch_loop s hs toks hT hI r (j + 1) (drop_some h).2.2
    have hx := hI x (List.mem_of_mem_drop (h ▸ List.mem_cons_self))
    refine Ev.step (fun k => treadlelaw12_LexMunch.l0.eq_2 _ _ _ k) (Ev.ite_pos (by omega) (Ev.ite_pos (by omega) ?_))
    rw [hrd, wrap_succ (i := j) (by omega)]
    rcases hx with h0 | ⟨k, a, b, hx, hk, hab, hb, hg, ht⟩
    · exact Ev.ite_pos h0 ih
    rw [L_length] at hb
    subst hx
    simp only
    have ea : ((a : Int)).toNat = a := by omega
    have eb : ((b : Int)).toNat = b := by omega
    have hba : wrap64 ((b : Int) - (a : Int)) = ((b - a : Nat) : Int) := by rw [wrap_id (by omega) (by omega)]; omega
    rw [hba, ea, eb]
    refine Ev.ite_neg (by omega) (Ev.ite_neg (by omega) (Ev.ite_pos (by omega) (Ev.ite_pos (by omega) (Ev.ite_pos (by omega) ?_))))
    refine Ev.bind (next_cut s hs k a b b hk hab hb hg ht (Nat.le_refl _) hb) (Ev.ite_pos rfl ?_)
    refine Ev.step (fun q => treadlelaw12_LexMunch.j1.eq_2 _ _ _ _ _ _ _ _ _ _ q) (Ev.ite_neg (by simp) ?_)
    rw [wrap_succ (i := j) (by omega)]
    by_cases hbs : b = s.size
    · exact Ev.ite_pos (by omega) ih
    refine Ev.ite_neg (by omega) ?_
    rw [wrap_succ (i := b) (by omega)]
    have eb1 : (((b + 1 : Nat) : Int)).toNat = b + 1 := by omega
    rw [ea, eb1]
    refine Ev.ite_pos (by omega) (Ev.ite_pos (by omega) (Ev.ite_pos (by omega) ?_))
    exact Ev.bind (next_cut s hs k a b (b + 1) hk hab hb hg ht (by omega) (by omega)) (Ev.ite_pos rfl (Ev.ite_neg (by simp) ih))
theorem LexMunch (s : ByteArray) (hs : s.size ≤ 1048576) : Ev (fun k => treadlelaw12_LexMunch.f k s) true := by
  unfold treadlelaw12_LexMunch.f
  refine Ev.bind (lall s hs) ?_
  obtain ⟨h1, h2⟩ := allT_len s hs
  by_cases hw : (allT s).2.1 = 0
  · unfold resL
    rw [if_pos hw]
    simp only [List.nil_append]
    refine Ev.ite_neg (by decide) ?_
    unfold allT at hw h1 ⊢
    by_cases hz : s.size > 65536
    · rw [if_pos hz] at hw; cases hw
    rw [if_neg hz] at hw h1 ⊢
    exact munch_loop s (by omega) _ h1 (alls_tok (L s) _ 0 (by omega)) _ 0 rfl
  · unfold resL
    rw [if_neg hw]
    refine Ev.ite_pos ?_ (Ev.ite_pos rfl (Ev.bind awake (Ev.some_ rfl)))
    simp; omega
end Go.Proofs.YtflmcglppeehgaaDoor.Pure
