import Derived.Test.YtifachjefpcgcaaDoorEScanLawsB
namespace Go.Proofs.YtifachjefpcgcaaDoor.Pure
open Go.RowKit Go.Proofs.YtifachjefpcgcaaDoor.P Go.Proofs.YtifachjefpcgcaaDoor.Base Go.Proofs.YtifachjefpcgcaaDoorW.PrintWords Go.Proofs.YtifachjefpcgcaaDoorW.PrintLast Go.Proofs.YtifachjefpcgcaaDoorW.PrintMore
set_option linter.unusedVariables false
set_option linter.unusedSimpArgs false
theorem gap_tok (c : UInt8) (r : List UInt8) (h1 : isSp c = false) (h2 : isSl c = false) : gapL false (c :: r) = 0 := by
  unfold gapL; rw [if_neg (by simp [h1]), if_neg (by simp [h2])]
theorem gap_sp (c : UInt8) (r : List UInt8) (h : isSp c = true) : gapL false (c :: r) = 1 + gapL false r := by
  conv => lhs; unfold gapL
  rw [if_pos h]
theorem nx_at (l g t u : List UInt8) (i k : Nat) (hi : i ≤ l.length) (hd : l.drop i = g ++ t ++ u) (hg : gapL false (g ++ t ++ u) = g.length) (ht : tok (t ++ u) = (k, t.length, 0)) (hne : t ≠ []) :
    nx l i = (k, i + g.length, i + g.length + t.length, 0) ∧ tx l i = t ∧ i + g.length + t.length ≤ l.length ∧ l.drop (i + g.length + t.length) = u := by
  have hlen : l.length - i = g.length + t.length + u.length := by rw [← List.length_drop, hd]; simp; omega
  have h1 : l.drop (i + g.length) = t ++ u := by rw [← List.drop_drop, hd, List.append_assoc, List.drop_left]
  have htl : 1 ≤ t.length := by cases t with | nil => exact absurd rfl hne | cons a b => simp
  have hn : nx l i = (k, i + g.length, i + g.length + t.length, 0) := by
    unfold nx
    rw [hd, hg, h1, ht, if_neg (by omega), if_pos rfl]
  refine ⟨hn, ?_, by omega, ?_⟩
  · unfold tx
    rw [hn]
    simp only
    rw [h1, show i + g.length + t.length - (i + g.length) = t.length by omega, List.take_left]
  · rw [← List.drop_drop, h1, List.drop_left]
def G0 (g : List UInt8) : Prop := g = [] ∨ g = [10]
theorem G0.gap {g : List UInt8} (h : G0 g) (r : List UInt8) : gapL false (g ++ r) = g.length + gapL false r := by
  rcases h with rfl | rfl
  · simp
  · exact gap_sp 10 r (by decide)
theorem begins_shift (l T g : List UInt8) (i j : Nat) (hg : G0 g) (hi : i ≤ l.length) (hj : j ≤ T.length) (hd : l.drop i = g ++ T.drop j) : begins l i = begins T j := by
  have hlen : l.length - i = g.length + (T.length - j) := by rw [← List.length_drop, hd]; simp
  have hgap : gapL false (l.drop i) = g.length + gapL false (T.drop j) := by rw [hd]; exact hg.gap _
  have hle := gapL_le (T.drop j) false
  rw [List.length_drop] at hle
  have h1 : l.drop (i + gapL false (l.drop i)) = T.drop (j + gapL false (T.drop j)) := by
    rw [hgap, ← Nat.add_assoc, ← List.drop_drop, ← List.drop_drop, hd, List.drop_left, List.drop_drop]
  have e1 : (nx l i).1 = (nx T j).1 ∧ (nx l i).2.2.2 = (nx T j).2.2.2 := by
    unfold nx
    rw [h1]
    by_cases hx : j + gapL false (T.drop j) = T.length
    · rw [if_pos hx, if_pos (by omega)]; exact ⟨rfl, rfl⟩
    · rw [if_neg hx, if_neg (by omega)]
      split <;> exact ⟨rfl, rfl⟩
  have e2 : (nx T j).2.2.2 = 0 → tx l i = tx T j := by
    intro he
    have he' : (nx l i).2.2.2 = 0 := by rw [e1.2]; exact he
    unfold tx
    rw [nx_from l i, nx_from T j, h1]
    congr 1
    by_cases hk : (nx T j).1 = 0
    · have a := nx_end T j he hk
      have b := nx_end l i he' (by rw [e1.1]; exact hk)
      have fa := nx_from T j
      have fb := nx_from l i
      omega
    · have a := nx_tok T j he hk
      have b := nx_tok l i he' (by rw [e1.1]; exact hk)
      rw [nx_from T j] at a
      rw [nx_from l i, h1] at b
      have := a.2.2.symm.trans b.2.2
      rw [Prod.mk.injEq, Prod.mk.injEq] at this
      exact this.2.1.symm
  unfold begins
  by_cases he : (nx T j).2.2.2 = 0
  · rw [e1.1, e1.2, e2 he]
  · have he' : ¬ (nx l i).2.2.2 = 0 := by rw [e1.2]; exact he
    rw [decide_eq_false he, decide_eq_false he']; rfl
theorem tok_key (t u : List UInt8) (n : Nat) (h : tok t = (4, n, 0)) (hn : n = t.length) : tok (t ++ 32 :: u) = (4, t.length, 0) := by
  have := tok_ext t (32 :: u) (by rw [h]) (Or.inr ⟨u, rfl⟩)
  rw [h] at this
  simp only at this
  rw [hn, List.take_length] at this
  exact this
theorem quote_eq {x : ByteArray} (h : (quoteR x).2 = 0) : x.size ≤ 4096 ∧ L (quoteR x).1 = 34 :: ((L x).flatMap enc ++ [34]) := by
  unfold quoteR at *
  by_cases hx : x.size > 4096
  · rw [if_pos hx] at h; cases h
  · rw [if_neg hx, L_mkB]; exact ⟨by omega, rfl⟩
theorem tok_quote (q : List UInt8) (r : List UInt8) (t : ByteArray) (hq : q = 34 :: r) (h : textR q = (t, 0)) : tok q = (3, q.length, 0) := by
  subst hq
  have h' := h
  unfold textR at h
  simp only at h
  rw [if_pos (by decide)] at h
  show tokC 34 r = _
  unfold tokC
  rw [if_neg (by decide), if_neg (by decide), if_pos (by decide)]
  cases hx : quo r with
  | none => rw [hx] at h; simp only at h; injection h with _ h2; cases h2
  | some z =>
    obtain ⟨a, n⟩ := z
    rw [hx] at h
    simp only at h ⊢
    by_cases hn : n = (34 :: r).length
    · rw [← hn]
    · rw [if_neg hn] at h; injection h with _ h2; cases h2
theorem tok_text (q u r : List UInt8) (t : ByteArray) (hq : q = 34 :: r) (h : textR q = (t, 0)) : tok (q ++ 32 :: u) = (3, q.length, 0) := by
  have h1 := tok_quote q r t hq h
  have := tok_ext q (32 :: u) (by rw [h1]) (Or.inr ⟨u, rfl⟩)
  rw [h1] at this
  simp only at this
  rw [List.take_length] at this
  exact this
theorem tw_stop (p : UInt8 → Bool) (c : UInt8) (hp : p c = false) (u : List UInt8) : ∀ l : List UInt8, l.all p = true → (l ++ c :: u).takeWhile p = l
  | [], _ => by rw [List.nil_append, List.takeWhile_cons, hp]; rfl
  | d :: r, h => by
    rw [List.all_cons, Bool.and_eq_true] at h
    rw [List.cons_append, List.takeWhile_cons, if_pos h.1, tw_stop p c hp u r h.2]
theorem tok_name (n u : List UInt8) (h : (nameOk n && !decide (n ∈ keyTexts)) = true) : tok (n ++ 59 :: u) = (1, n.length, 0) := by
  rw [Bool.and_eq_true] at h
  obtain ⟨h1, h2⟩ := h
  cases n with
  | nil => cases h1
  | cons c r =>
    unfold nameOk at h1
    simp only [Bool.and_eq_true, decide_eq_true_eq] at h1
    have hk : ¬ (c :: r) ∈ keyTexts := by simpa using h2
    have htw := tw_stop isW 59 (by decide) u (c :: r) h1.2
    show tokC c (r ++ 59 :: u) = _
    unfold tokC
    rw [if_pos h1.1.2]
    have e : c :: (r ++ 59 :: u) = (c :: r) ++ 59 :: u := rfl
    rw [e, htw, if_neg (by omega), List.take_left, if_neg hk]
theorem tok_semi (u : List UInt8) : tok ([59] ++ 10 :: u) = (5, ([59] : List UInt8).length, 0) := by
  show tokC 59 (10 :: u) = _
  have hs : sgn (59 :: 10 :: u) = 1 := by
    unfold sgn
    rw [if_neg (show ¬ List.take 2 (59 :: 10 :: u) ∈ twoSigns from (by show ¬ [59, 10] ∈ twoSigns; decide))]
    simp only
    rw [if_pos (by decide)]
  unfold tokC
  rw [if_neg (by decide), if_neg (by decide), if_neg (by decide), hs, if_neg (by decide)]; rfl
theorem fit_ok (l : List UInt8) (i p : Nat) (he : (nx l i).2.2.2 = 0) (hf : fit p (tx l i) = true) : wE l i p = 0 := by
  unfold wE; rw [if_neg (by omega), if_pos hf]
theorem one_in (l g w : List UInt8) (x : SI) (i : Nat) (hx : okX x = true) (hg : G0 g) (hi : i ≤ l.length) (hd : l.drop i = g ++ (putB x ++ w)) :
    begins l i = true ∧ stepE l i = (0, 0, i + g.length + (putB x).length - 1) ∧ stepP l i = x.f0 ∧ stepN l i = x.f1 ∧
      i + g.length + (putB x).length ≤ l.length ∧ l.drop (i + g.length + (putB x).length - 1) = [10] ++ w ∧ fr l i = i + g.length := by
  unfold okX at hx
  rw [Bool.and_eq_true, decide_eq_true_eq] at hx
  obtain ⟨hq0, hn⟩ := hx
  obtain ⟨hx0, hq⟩ := quote_eq hq0
  have hT := text_quote (L x.f0) (by rw [L_length]; exact hx0)
  rw [← hq, mkB_L] at hT
  have hn1 : nameOk (L x.f1) = true := by rw [Bool.and_eq_true] at hn; exact hn.1
  obtain ⟨c, r, hcr, hc⟩ : ∃ c r, L x.f1 = c :: r ∧ isL c = true := by
    cases h : L x.f1 with
    | nil => rw [h] at hn1; cases hn1
    | cons c r => rw [h] at hn1; unfold nameOk at hn1; simp only [Bool.and_eq_true] at hn1; exact ⟨c, r, rfl, hn1.1.2⟩
  have hcs : ∀ c : UInt8, isL c = true → isSp c = false ∧ isSl c = false := by
    intro c hc
    exact ⟨by
      have := byte_all (p := fun c => !isL c || !isSp c) (by decide +kernel) c
      simp only [hc, Bool.not_true, Bool.false_or, Bool.not_eq_true'] at this; exact this, by
      have := byte_all (p := fun c => !isL c || !isSl c) (by decide +kernel) c
      simp only [hc, Bool.not_true, Bool.false_or, Bool.not_eq_true'] at this; exact this⟩
  generalize hQ : L (quoteR x.f0).1 = q at *
  have hd1 : l.drop i = g ++ incT ++ (32 :: (q ++ (32 :: (asT ++ (32 :: (L x.f1 ++ (59 :: 10 :: w))))))) := by
    rw [hd]; unfold putB; rw [hQ]; simp [incT, asT]
  obtain ⟨a1, a2, a3, a4⟩ := nx_at l g incT _ i 4 hi hd1 (by rw [List.append_assoc, hg.gap]; rw [show gapL false (incT ++ (32 :: (q ++ (32 :: (asT ++ (32 :: (L x.f1 ++ (59 :: 10 :: w)))))))) = 0 from gap_tok 105 _ (by decide) (by decide)]; rfl) (tok_key incT _ 7 tok_inc rfl) (by decide)
  generalize hi1 : i + g.length + incT.length = i1 at *
  obtain ⟨b1, b2, b3, b4⟩ := nx_at l [32] q _ i1 3 a3 (by rw [a4]; rfl) (by rw [List.append_assoc]; show gapL false (32 :: (q ++ _)) = 1; rw [gap_sp 32 _ (by decide), hq]; rw [show gapL false ((34 :: ((L x.f0).flatMap enc ++ [34])) ++ (32 :: (asT ++ (32 :: (L x.f1 ++ (59 :: 10 :: w)))))) = 0 from gap_tok 34 _ (by decide) (by decide)]) (tok_text q _ _ x.f0 hq hT) (by rw [hq]; simp)
  generalize hi2 : i1 + ([32] : List UInt8).length + q.length = i2 at *
  obtain ⟨c1, c2, c3, c4⟩ := nx_at l [32] asT _ i2 4 b3 (by rw [b4]; rfl) (by rw [List.append_assoc]; show gapL false (32 :: (asT ++ _)) = 1; rw [gap_sp 32 _ (by decide)]; rw [show gapL false (asT ++ (32 :: (L x.f1 ++ (59 :: 10 :: w)))) = 0 from gap_tok 97 _ (by decide) (by decide)]) (tok_key asT _ 2 tok_as rfl) (by decide)
  generalize hi3 : i2 + ([32] : List UInt8).length + asT.length = i3 at *
  obtain ⟨d1, d2, d3, d4⟩ := nx_at l [32] (L x.f1) _ i3 1 c3 (by rw [c4]; rfl) (by rw [List.append_assoc]; show gapL false (32 :: (L x.f1 ++ _)) = 1; rw [gap_sp 32 _ (by decide), hcr]; rw [show gapL false ((c :: r) ++ (59 :: 10 :: w)) = 0 from gap_tok c _ (hcs c hc).1 (hcs c hc).2]) (tok_name (L x.f1) _ hn) (by rw [hcr]; simp)
  generalize hi4 : i3 + ([32] : List UInt8).length + (L x.f1).length = i4 at *
  obtain ⟨e1, e2, e3, e4⟩ := nx_at l [] [59] (10 :: w) i4 5 d3 (by rw [d4]; rfl) (by show gapL false (59 :: 10 :: w) = 0; exact gap_tok 59 _ (by decide) (by decide)) (tok_semi w) (by decide)
  generalize hi5 : i4 + ([] : List UInt8).length + ([59] : List UInt8).length = i5 at *
  have t1 : tt l i = i1 := by unfold tt; rw [a1]
  have t2 : tt l i1 = i2 := by unfold tt; rw [b1]
  have t3 : tt l i2 = i3 := by unfold tt; rw [c1]
  have t4 : tt l i3 = i4 := by unfold tt; rw [d1]
  have t5 : tt l i4 = i5 := by unfold tt; rw [e1]
  have hlen : (putB x).length = 8 + q.length + 4 + (L x.f1).length + 2 := by
    unfold putB; rw [hQ]; simp only [List.length_append, List.length_cons, List.length_nil]
  have hI : incT.length = 7 := rfl
  have hA : asT.length = 2 := rfl
  have h5 : i5 = i + g.length + (putB x).length - 1 := by
    simp only [List.length_cons, List.length_nil] at hi2 hi3 hi4 hi5; omega
  have hdl : l.length - i5 = w.length + 1 := by rw [← List.length_drop, e4]; rfl
  have hfr : fr l i = i + g.length := by unfold fr; rw [a1]
  refine ⟨?_, ?_, ?_, ?_, by omega, by rw [← h5, e4]; rfl, hfr⟩
  · unfold begins
    rw [a2, a1]; rfl
  · rcases stepE_cases l i with ⟨h, _⟩ | ⟨_, h, _⟩ | ⟨_, _, h, _⟩ | ⟨_, _, _, h, _⟩ | ⟨_, _, _, _, h⟩
    · exact absurd (fit_ok l (tt l i) 1 (by rw [t1, b1]) (by rw [t1, b2]; unfold fit; rw [if_pos rfl, hT]; rfl)) h
    · exact absurd (fit_ok l _ 2 (by rw [t1, t2, c1]) (by rw [t1, t2, c2]; rfl)) h
    · exact absurd (fit_ok l _ 3 (by rw [t1, t2, t3, d1]) (by rw [t1, t2, t3, d2]; unfold fit; rw [if_neg (by decide), if_neg (by decide), if_pos rfl]; exact hn)) h
    · exact absurd (fit_ok l _ 4 (by rw [t1, t2, t3, t4, e1]) (by rw [t1, t2, t3, t4, e2]; rfl)) h
    · rw [h, t1, t2, t3, t4, t5, h5]
  · unfold stepP; rw [t1, b2, hT]
  · unfold stepN; rw [t1, t2, t3, d2, mkB_L]
def pl : List SI → Nat → List (List UInt8 × List UInt8 × Int)
  | [], _ => []
  | x :: r, p => (L x.f0, L x.f1, (p : Int)) :: pl r (p + (putB x).length)
theorem all_in (v : List UInt8) (hv : ∀ (l g : List UInt8) (i : Nat), G0 g → i ≤ l.length → l.drop i = g ++ v → begins l i = false) :
    ∀ (xs : List SI) (f : Nat) (l g : List UInt8) (i : Nat), (∀ x ∈ xs, okX x = true) → G0 g → i ≤ l.length → l.length - i < f → l.drop i = g ++ (xs.flatMap putB ++ v) →
    (incs f l i).1.map (keyI false) = xs.map (keyI false) ∧ (incs f l i).2 = (if xs = [] then i else i + g.length + (xs.flatMap putB).length - 1, 0, 0) ∧ (incs f l i).1.length ≤ l.length - i ∧ (incs f l i).1.map (keyI true) = pl xs (i + g.length)
  | xs, 0, l, g, i, hx, hg, hi, hf, hd => by omega
  | [], f + 1, l, g, i, hx, hg, hi, hf, hd => by
    unfold incs
    rw [if_neg (by rw [hv l g i hg hi (by simpa using hd)]; simp)]
    exact ⟨rfl, by simp, by simp, rfl⟩
  | x :: xs, f + 1, l, g, i, hx, hg, hi, hf, hd => by
    rw [List.flatMap_cons, List.append_assoc] at hd
    obtain ⟨h1, h2, h3, h4, h5, h6, h7⟩ := one_in l g (xs.flatMap putB ++ v) x i (hx x (by simp)) hg hi hd
    have hp : 8 ≤ (putB x).length := by unfold putB; simp only [List.length_append, List.length_cons, List.length_nil]; omega
    obtain ⟨i1, i2, i3, i4⟩ := all_in v hv xs f l [10] (i + g.length + (putB x).length - 1) (fun y hy => hx y (List.mem_cons_of_mem _ hy)) (Or.inr rfl) (by omega) (by omega) h6
    unfold incs
    rw [if_pos h1, h2]
    dsimp only
    rw [if_neg (by simp)]
    generalize incs f l (i + g.length + (putB x).length - 1) = X at *
    obtain ⟨m, e, c, d⟩ := X
    dsimp only at i1 i2 i3 i4 ⊢
    rw [Prod.mk.injEq, Prod.mk.injEq] at i2
    obtain ⟨j1, j2, j3⟩ := i2
    rw [if_neg (by omega)]
    refine ⟨?_, ?_, ?_, ?_⟩
    · rw [List.map_cons, List.map_cons, i1]
      congr 1
      unfold keyI
      rw [h3, h4]; simp
    · have hE : e = i + g.length + ((putB x).length + (xs.flatMap putB).length) - 1 := by
        rw [j1]
        by_cases he : xs = []
        · rw [if_pos he, he]; simp
        · rw [if_neg he]; simp only [List.length_cons, List.length_nil]; omega
      rw [j2, j3, hE, if_neg (show ¬ x :: xs = [] by simp), List.flatMap_cons, List.length_append]
    · simp only [List.length_cons]; omega
    · rw [List.map_cons, i4, pl.eq_2, List.cons.injEq]
      refine ⟨?_, ?_⟩
      · unfold keyI; rw [h3, h4, h7]; rfl
      · rw [show i + g.length + (putB x).length - 1 + ([10] : List UInt8).length = i + g.length + (putB x).length by simp only [List.length_cons, List.length_nil]; omega]
theorem incs_end (l : List UInt8) : ∀ (f i : Nat), i ≤ l.length → l.length - i < f → (incs f l i).2.2.1 = 0 → begins l (incs f l i).2.1 = false ∧ (incs f l i).2.1 ≤ l.length
  | 0, i, hi, hf, h => by omega
  | f + 1, i, hi, hf, h => by
    unfold incs at h ⊢
    by_cases hb : begins l i = true
    · rw [if_pos hb] at h ⊢
      obtain ⟨e, p, q, hst⟩ : ∃ e p q : Nat, stepE l i = (e, p, q) := ⟨_, _, _, rfl⟩
      rw [hst] at h ⊢
      simp only at h ⊢
      by_cases he : e ≠ 0
      · rw [if_pos he] at h; exact absurd h he
      · rw [if_neg he] at h ⊢
        have he : e = 0 := by omega
        subst he
        obtain ⟨q1, q2⟩ := stepE_ok hi hb (by rw [hst])
        rw [hst] at q1 q2
        simp only at q1 q2
        by_cases h2 : (incs f l q).2.2.1 ≠ 0
        · rw [if_pos h2] at h; exact absurd h h2
        · rw [if_neg h2] at h ⊢
          exact incs_end l f q q2 (by omega) (by omega)
    · rw [if_neg hb]
      exact ⟨by simpa using hb, hi⟩
theorem found_in (s : ByteArray) (xs : List SI) (v : List UInt8) (hs : s.size ≤ 65536) (hv : ∀ (l g : List UInt8) (i : Nat), G0 g → i ≤ l.length → l.drop i = g ++ v → begins l i = false)
    (hx : ∀ x ∈ xs, okX x = true) (hd : L s = xs.flatMap putB ++ v) :
    ∃ m e, foundT s = (m, e, 0, 0) ∧ m.map (keyI false) = xs.map (keyI false) ∧ e ≤ s.size ∧ e = (if xs = [] then 0 else (xs.flatMap putB).length - 1) ∧ m.map (keyI true) = pl xs 0 := by
  have h := all_in v hv xs (s.size + 1) (L s) [] 0 hx (Or.inl rfl) (by omega) (by rw [L_length]; omega) (by rw [hd]; rfl)
  have hb := (foundT_bd s).2
  have hE : foundT s = incs (s.size + 1) (L s) 0 := by unfold foundT; rw [if_neg (by omega)]
  rw [hE] at hb ⊢
  generalize incs (s.size + 1) (L s) 0 = X at *
  obtain ⟨m, e, c, d⟩ := X
  simp only [Prod.mk.injEq] at h
  obtain ⟨h1, ⟨h2, h3, h4⟩, _, h5⟩ := h
  subst h3 h4
  refine ⟨m, e, rfl, h1, hb, ?_, h5⟩
  rw [h2]
  split <;> simp
theorem withR_ok {s : ByteArray} {l : List SI} (h : (withR s l).2 = 0) : ∃ m e d, foundT s = (m, e, 0, d) ∧ (∀ x ∈ l, okX x = true) ∧ (withR s l).1 = mkB (l.flatMap putB ++ (L s).drop e) ∧ (withR s l).1.size ≤ 65536 := by
  unfold withR at *
  generalize foundT s = X at *
  obtain ⟨m, e, c, d⟩ := X
  simp only at h ⊢
  by_cases hc : c ≠ 0
  · rw [if_pos hc] at h; simp only at h; omega
  · rw [if_neg hc] at h ⊢
    have hc : c = 0 := by omega
    subst hc
    refine ⟨m, e, d, rfl, ?_⟩
    unfold withT at *
    cases hp : putAll l [] with
    | none => rw [hp] at h; cases h
    | some B =>
      rw [hp] at h
      simp only at h ⊢
      by_cases hb : (B ++ (L s).drop e).length > 65536
      · rw [if_pos hb] at h; cases h
      · rw [if_neg hb]
        rw [List.length_append] at hb
        obtain ⟨h1, h2⟩ := putAll_bd l [] B hp (by omega)
        rw [List.nil_append] at h1
        refine ⟨h2, by rw [h1], ?_⟩
        rw [size_eq_L, L_mkB, List.length_append]; omega
theorem withR_bad {s : ByteArray} {l : List SI} (h : ¬ (withR s l).2 = 0) : (withR s l).1 = ⟨#[]⟩ := by
  unfold withR at *
  generalize foundT s = X at *
  obtain ⟨m, e, c, d⟩ := X
  simp only at h ⊢
  by_cases hc : c ≠ 0
  · rw [if_pos hc]
  · rw [if_neg hc] at h ⊢
    unfold withT at *
    cases hp : putAll l [] with
    | none => rfl
    | some B =>
      rw [hp] at h
      simp only at h ⊢
      by_cases hb : (B ++ (L s).drop e).length > 65536
      · rw [if_pos hb]
      · rw [if_neg hb] at h; exact absurd rfl h
theorem withR_none (s : ByteArray) (m : List SI) (e : Nat) (hs : s.size ≤ 65536) (h : foundT s = (m, e, 0, 0)) : withR s [] = (mkB ((L s).drop e), 0) := by
  unfold withR
  rw [h]
  simp only
  rw [if_neg (by simp)]
  unfold withT putAll
  simp only [List.nil_append]
  rw [if_neg (by rw [List.length_drop, L_length]; omega)]
theorem drop_last {A v : List UInt8} {e : Nat} (h : e = A.length - 1) (hA : ∃ B, A = B ++ [10]) : (A ++ v).drop e = 10 :: v := by
  obtain ⟨B, rfl⟩ := hA
  have : e = B.length := by rw [h]; simp
  subst this
  rw [List.append_assoc, List.drop_left]; rfl
theorem put_last : ∀ (xs : List SI), xs ≠ [] → ∃ B, xs.flatMap putB = B ++ [10]
  | [], h => absurd rfl h
  | [x], _ => ⟨[105, 110, 99, 108, 117, 100, 101, 32] ++ L (quoteR x.f0).1 ++ [32, 97, 115, 32] ++ L x.f1 ++ [59], by simp [putB]⟩
  | x :: y :: r, _ => by
    obtain ⟨B, hB⟩ := put_last (y :: r) (by simp)
    exact ⟨putB x ++ B, by rw [List.flatMap_cons, hB, List.append_assoc]⟩
theorem resF_ok (m : List SI) (e : Nat) : resF [] (m, e, 0, 0) = (m, (e : Int), 0, 0) := by unfold resF; rw [if_neg (by simp)]; simp
theorem ScanBack (s : ByteArray) (l : List SI) (hs : s.size ≤ 1048576) (hl : l.length ≤ 1048576) (hz : ∀ x ∈ l, x.f0.size ≤ 1048576 ∧ x.f1.size ≤ 1048576) : Ev (fun k => treadlelaw13_ScanBack.f k s l) true := by
  unfold treadlelaw13_ScanBack.f
  refine Ev.bind alive (Ev.ite_pos rfl (Ev.bind (lwith s hs l hl hz) ?_))
  by_cases hw : (withR s l).2 = 0
  · refine Ev.ite_pos hw ?_
    obtain ⟨m0, e0, d0, hf0, hok, hs1, hsz⟩ := withR_ok hw
    have hs65 : s.size ≤ 65536 := by
      by_cases h : s.size > 65536
      · unfold foundT at hf0; rw [if_pos h] at hf0; rw [Prod.mk.injEq, Prod.mk.injEq, Prod.mk.injEq] at hf0; exact absurd hf0.2.2.1 (by decide)
      · omega
    have hin : foundT s = incs (s.size + 1) (L s) 0 := by unfold foundT; rw [if_neg (by omega)]
    obtain ⟨hbe, hel⟩ := incs_end (L s) (s.size + 1) 0 (by omega) (by rw [L_length]; omega) (by rw [← hin, hf0])
    rw [← hin, hf0] at hbe hel
    simp only at hbe hel
    have hv : ∀ (l' g : List UInt8) (i : Nat), G0 g → i ≤ l'.length → l'.drop i = g ++ (L s).drop e0 → begins l' i = false := fun l' g i hg hi hd => by
      rw [begins_shift l' (L s) g i e0 hg hi hel hd]; exact hbe
    generalize (withR s l).1 = t at *
    have hLt : L t = l.flatMap putB ++ (L s).drop e0 := by rw [hs1, L_mkB]
    obtain ⟨m, e, hf, hm, hes, he, _⟩ := found_in t l ((L s).drop e0) hsz hv hok hLt
    have hwt := withR_none t m e hsz hf

    have hr : (L t).drop e = (if l = [] then [] else [10]) ++ (L s).drop e0 := by
      by_cases hnil : l = []
      · rw [if_pos hnil] at he ⊢
        rw [hLt, he, hnil]; rfl
      · rw [if_neg hnil] at he ⊢
        rw [hLt]; exact drop_last he (put_last l hnil)
    obtain ⟨n, hn⟩ : ∃ n, n = mkB ((L t).drop e) := ⟨_, rfl⟩
    have hnL : L n = (L t).drop e := by rw [hn, L_mkB]
    have hnsz : n.size = t.size - e := by rw [size_eq_L, hnL, List.length_drop, L_length]
    have hbn : begins (L n) 0 = false := hv (L n) (if l = [] then [] else [10]) 0 (by split; exact Or.inl rfl; exact Or.inr rfl) (by omega) (by rw [List.drop_zero, hnL, hr])
    have hfn : foundT n = ([], 0, 0, 0) := by
      unfold foundT
      rw [if_neg (by omega)]
      unfold incs
      rw [hbn]; rfl
    have hwn := withR_none n [] 0 (by omega) hfn
    rw [List.drop_zero, mkB_L] at hwn
    have li := lincludes t (by omega)
    rw [hf, resF_ok] at li
    have lh := lhead t (by omega)
    rw [hf, resF_ok] at lh
    have lin := lincludes n (by omega)
    rw [hfn, resF_ok] at lin
    have lhn := lhead n (by omega)
    rw [hfn, resF_ok] at lhn
    have w1 := lwith t (by omega) [] (by simp) (fun x hx => by cases hx)
    rw [hwt, ← hn] at w1
    have w2 := lwith n (by omega) [] (by simp) (fun x hx => by cases hx)
    rw [hwn] at w2
    dsimp only at li lh lin lhn
    have hml : m.length ≤ 65537 := by have := (foundT_bd t).1; rw [hf] at this; exact Nat.le_trans this (by omega)
    refine Ev.bind li (Ev.bind w1 (Ev.bind w2 (Ev.bind lin (Ev.ite_pos rfl (Ev.bind (rsame m l false (by omega) hm) (Ev.ite_pos rfl (Ev.ite_pos rfl (Ev.ite_pos rfl (Ev.ite_pos rfl (Ev.ite_pos rfl (Ev.ite_pos rfl (Ev.bind lhn (Ev.ite_pos rfl (Ev.bind lh (Ev.some_ ?_)))))))))))))))
    rw [beq_iff_eq, wrap_id (by omega) (by omega), hnsz]
    omega
  · refine Ev.ite_neg hw (Ev.some_ ?_)
    rw [withR_bad hw, toList_L]; rfl
def constW : List UInt8 := [99, 111, 110, 115, 116]
theorem tok_const : tok constW = (4, 5, 0) := by decide +kernel
theorem begins_const (u : List UInt8) : begins (constW ++ 32 :: u) 0 = false := by
  obtain ⟨a1, a2, _, _⟩ := nx_at (constW ++ 32 :: u) [] constW (32 :: u) 0 4 (Nat.zero_le _) rfl (by show gapL false (constW ++ 32 :: u) = 0; exact gap_tok 99 _ (by decide) (by decide)) (tok_key constW u 5 tok_const rfl) (by decide)
  unfold begins
  rw [a2, decide_eq_false (by decide : ¬ constW = incT), Bool.and_false]
theorem const_out (u : List UInt8) (l g : List UInt8) (i : Nat) (hg : G0 g) (hi : i ≤ l.length) (hd : l.drop i = g ++ (constW ++ 32 :: u)) : begins l i = false := by
  rw [begins_shift l (constW ++ 32 :: u) g i 0 hg hi (Nat.zero_le _) (by rw [List.drop_zero]; exact hd)]
  exact begins_const u
theorem ScanStops (l : List SI) (b : ByteArray) (hl : l.length ≤ 1048576) (hz : ∀ x ∈ l, x.f0.size ≤ 1048576 ∧ x.f1.size ≤ 1048576) (hb : b.size ≤ 1048576) : Ev (fun k => treadlelaw13_ScanStops.f k l b) true := by
  unfold treadlelaw13_ScanStops.f
  refine Ev.bind alive (Ev.ite_pos rfl (Ev.bind (lwith (mkB (constW ++ [32])) (by decide) l hl hz) ?_))
  have jt : ∀ (t : ByteArray) (B : Bool), B = true → Ev (fun k => treadlelaw13_ScanStops.j0 k l b t B) true := fun t B hB =>
    Ev.step (fun k => treadlelaw13_ScanStops.j0.eq_2 _ _ _ _ k) (Ev.ite_pos hB (Ev.some_ rfl))
  by_cases hw : (withR (mkB (constW ++ [32])) l).2 = 0
  · refine Ev.ite_pos hw ?_
    obtain ⟨m0, e0, d0, hf0, hok, hs1, hsz⟩ := withR_ok hw
    have hfc : foundT (mkB (constW ++ [32])) = ([], 0, 0, 0) := by
      unfold foundT
      rw [if_neg (by decide), L_mkB]
      unfold incs
      rw [show begins (constW ++ [32]) 0 = false from begins_const []]; rfl
    have he0 : e0 = 0 := by rw [hfc, Prod.mk.injEq, Prod.mk.injEq] at hf0; exact hf0.2.1.symm
    subst he0
    rw [L_mkB, List.drop_zero] at hs1
    generalize (withR (mkB (constW ++ [32])) l).1 = t at *
    have hLt : L t = l.flatMap putB ++ (constW ++ 32 :: []) := by rw [hs1, L_mkB]
    by_cases hbig : wrap64 ((t.size : Int) + (b.size : Int)) > 65536
    · exact jt _ _ (decide_eq_true hbig)
    rw [wrap_id (by omega) (by omega)] at hbig
    refine Ev.step (fun k => treadlelaw13_ScanStops.j0.eq_2 _ _ _ _ k) (Ev.ite_neg (by rw [wrap_id (by omega) (by omega), decide_eq_false hbig]; simp) ?_)
    have htb : (t ++ b).size = t.size + b.size := by rw [ByteArray.size_append]
    have hLb : L (t ++ b) = l.flatMap putB ++ (constW ++ 32 :: L b) := by rw [L_append, hLt]; simp
    obtain ⟨m, e, hf, hm, hes, he, hp⟩ := found_in t l _ (by omega) (const_out []) hok hLt
    obtain ⟨m', e', hf', hm', hes', he', hp'⟩ := found_in (t ++ b) l _ (by omega) (const_out (L b)) hok hLb
    have li := lincludes t (by omega)
    rw [hf, resF_ok] at li
    have lh := lhead t (by omega)
    rw [hf, resF_ok] at lh
    have li' := lincludes (t ++ b) (by omega)
    rw [hf', resF_ok] at li'
    have lh' := lhead (t ++ b) (by omega)
    rw [hf', resF_ok] at lh'
    dsimp only at li lh li' lh'
    have hml : m.length ≤ 65537 := by have := (foundT_bd t).1; rw [hf] at this; exact Nat.le_trans this (by omega)
    refine Ev.bind li (Ev.ite_pos (by omega) (Ev.bind li' (Ev.ite_pos rfl (Ev.ite_pos rfl (Ev.bind (rsame m m' true (by omega) (hp.trans hp'.symm)) (Ev.ite_pos rfl (Ev.bind (rsame m l false (by omega) hm) (Ev.ite_pos rfl (Ev.bind lh' (Ev.bind lh (Ev.some_ ?_)))))))))))
    rw [beq_iff_eq, he, he']
  · exact Ev.ite_neg hw (jt _ _ rfl)
end Go.Proofs.YtifachjefpcgcaaDoor.Pure
