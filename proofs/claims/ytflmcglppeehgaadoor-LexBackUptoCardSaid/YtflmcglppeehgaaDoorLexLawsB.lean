/- Layer lex: the laws LexQuotes, LexBack. -/
import Derived.Test.YtflmcglppeehgaaDoorLexLawsA
namespace Go.Proofs.YtflmcglppeehgaaDoor.Pure
open Go.RowKit Go.Proofs.YtflmcglppeehgaaDoor.P Go.Proofs.YtflmcglppeehgaaDoor.Base Go.Proofs.YtflmcglppeehgaaDoorW.PrintWords Go.Proofs.YtflmcglppeehgaaDoorW.PrintLast Go.Proofs.YtflmcglppeehgaaDoorW.PrintMore
set_option linter.unusedVariables false
set_option linter.unusedSimpArgs false

/-! ### LexQuotes -/
def hx (n : Nat) : UInt8 := UInt8.ofNat (if n < 10 then 48 + n else 87 + n)
abbrev hexB : ByteArray := ⟨#[48, 49, 50, 51, 52, 53, 54, 55, 56, 57, 97, 98, 99, 100, 101, 102]⟩
def enc (c : UInt8) : List UInt8 :=
  if c.toNat = 10 then [92, 110] else if c.toNat = 9 then [92, 116] else if c.toNat = 34 ∨ c.toNat = 92 then [92, c]
  else if c.toNat < 32 ∨ 126 < c.toNat then [92, 120, hx (c.toNat / 16), hx (c.toNat % 16)] else [c]
theorem enc_len (c : UInt8) : 1 ≤ (enc c).length ∧ (enc c).length ≤ 4 := by
  unfold enc; split
  · decide
  · split
    · decide
    · split
      · simp
      · split <;> simp
theorem and15 (c : UInt8) : Go.bits .and .u8 (c.toNat : Int) 15 = ((c.toNat % 16 : Nat) : Int) := by
  simpa using byte_all (p := fun c => decide (Go.bits .and .u8 (c.toNat : Int) 15 = ((c.toNat % 16 : Nat) : Int))) (by decide +kernel) c
theorem hexAt : ∀ n : Fin 16, bt hexB (n.val : Int) = ((hx n.val).toNat : Int) := by decide +kernel
def quoteR (s : ByteArray) : ByteArray × Int := if s.size > 4096 then (⟨#[]⟩, 3) else (mkB (34 :: ((L s).flatMap enc ++ [34])), 0)
theorem nums_app (A B : List UInt8) : nums A ++ nums B = nums (A ++ B) := by unfold nums; simp
theorem nums_len (A : List UInt8) : (nums A).length = A.length := by unfold nums; simp
theorem quo_snoc {A : List UInt8} {i : Nat} {c : UInt8} (hA : A.length ≤ 1 + 4 * i) : (A ++ enc c).length ≤ 1 + 4 * (i + 1) := by
  have := (enc_len c).2
  rw [List.length_append]; omega
theorem lquote_loop (s : ByteArray) (hs : s.size ≤ 4096) : ∀ (r : List UInt8) (i : Nat) (A : List UInt8), (L s).drop i = r → A.length ≤ 1 + 4 * i → i ≤ s.size →
    Ev (fun k => lex_Quote.l0 k s (nums A) s.size i) (mkB (A ++ (r.flatMap enc ++ [34])), 0)
  | [], i, A, h, hA, hi => by
    have := drop_none h; rw [L_length] at this
    refine Ev.step (fun k => lex_Quote.l0.eq_2 _ _ _ _ k) (Ev.ite_neg (by omega) (Ev.ite_pos (by rw [nums_len]; omega) (Ev.some_ ?_)))
    have e : nums A ++ [34] = nums (A ++ [34]) := by rw [← nums_app]; rfl
    rw [e, strOfNums_nums]; rfl
  | c :: r, i, A, h, hA, hi => by
    obtain ⟨hb, hi'⟩ := bt_drop h
    have ih := lquote_loop s hs r (i + 1) (A ++ enc c) (drop_some h).2.2 (quo_snoc hA) (by omega)
    have hres : A ++ enc c ++ (r.flatMap enc ++ [34]) = A ++ ((c :: r).flatMap enc ++ [34]) := by simp
    rw [hres] at ih
    have hAl : A.length ≤ 20000 := by omega
    have hgo : ∀ ys : List Int, ys = nums (enc c) → Ev (fun k => (some (ys : List Int)).bind fun y => if (nums A).length + y.length < 140737488355328 then lex_Quote.l0 k s (nums A ++ y) s.size (wrap64 ((i : Int) + 1)) else none) (mkB (A ++ ((c :: r).flatMap enc ++ [34])), 0) := fun ys hy => by
      have hel := (enc_len c).2
      refine Ev.bind_now rfl (Ev.ite_pos (by rw [hy, nums_len, nums_len]; omega) ?_)
      rw [hy, nums_app, wrap_succ (by omega)]; exact ih
    refine Ev.step (fun k => lex_Quote.l0.eq_2 _ _ _ _ k) (Ev.ite_pos (by omega) (Ev.ite_pos (by omega) (Ev.ite_pos (by omega) ?_)))
    rw [hb]
    by_cases h1 : c.toNat = 10
    · exact Ev.ite_pos (by omega) (hgo _ (by unfold enc; rw [if_pos h1]; rfl))
    refine Ev.ite_neg (by omega) ?_
    by_cases h2 : c.toNat = 9
    · exact Ev.ite_pos (by omega) (hgo _ (by unfold enc; rw [if_neg h1, if_pos h2]; rfl))
    refine Ev.ite_neg (by omega) ?_
    have hj : ∀ b : Bool, b = decide (c.toNat = 34 ∨ c.toNat = 92) → Ev (fun k => lex_Quote.j1 k s (nums A) (c.toNat : Int) s.size i b) (mkB (A ++ ((c :: r).flatMap enc ++ [34])), 0) := fun b hb' => by
      refine Ev.step (fun k => lex_Quote.j1.eq_2 _ _ _ _ _ _ k) ?_
      by_cases h3 : c.toNat = 34 ∨ c.toNat = 92
      · exact Ev.ite_pos (by rw [hb']; exact decide_eq_true h3) (hgo _ (by unfold enc; rw [if_neg h1, if_neg h2, if_pos h3]; rfl))
      refine Ev.ite_neg (by rw [hb', decide_eq_false h3]; simp) ?_
      have hq1 : (c.toNat : Int) / 16 = ((c.toNat / 16 : Nat) : Int) := by omega
      have hc256 := c.toNat_lt
      have hx1 := hexAt ⟨c.toNat / 16, by omega⟩
      have hx2 := hexAt ⟨c.toNat % 16, by omega⟩
      simp only at hx1 hx2
      by_cases h4 : c.toNat < 32
      · refine Ev.ite_pos (by omega) ?_
        rw [and15, hq1, hx1, hx2]
        refine Ev.ite_pos (by omega) (Ev.ite_pos (by omega) (Ev.ite_pos (by omega) (Ev.ite_pos (by omega) (hgo _ ?_))))
        unfold enc; rw [if_neg h1, if_neg h2, if_neg h3, if_pos (Or.inl h4)]; rfl
      refine Ev.ite_neg (by omega) ?_
      by_cases h5 : 126 < c.toNat
      · refine Ev.ite_pos (by omega) ?_
        rw [and15, hq1, hx1, hx2]
        refine Ev.ite_pos (by omega) (Ev.ite_pos (by omega) (Ev.ite_pos (by omega) (Ev.ite_pos (by omega) (hgo _ ?_))))
        unfold enc; rw [if_neg h1, if_neg h2, if_neg h3, if_pos (Or.inr h5)]; rfl
      refine Ev.ite_neg (by omega) (Ev.ite_pos (by rw [nums_len]; omega) ?_)
      have e : enc c = [c] := by unfold enc; rw [if_neg h1, if_neg h2, if_neg h3, if_neg (by omega)]
      have e2 : nums A ++ [(c.toNat : Int)] = nums (A ++ enc c) := by rw [e, ← nums_app]; rfl
      rw [e2, wrap_succ (by omega)]; exact ih
    by_cases h3 : c.toNat = 34
    · exact Ev.ite_pos (by omega) (hj _ (by simp [h3]))
    · refine Ev.ite_neg (by omega) (hj _ ?_)
      rw [Bool.eq_iff_iff]; simp [h3]; omega
theorem lquote (s : ByteArray) (hs : s.size ≤ 1048576) : Ev (fun k => lex_Quote.f k s) (quoteR s) := by
  unfold lex_Quote.f quoteR
  by_cases h : s.size > 4096
  · exact Ev.ite_pos (by omega) (Ev.some_ (by rw [if_pos h]))
  · rw [if_neg h]
    exact Ev.ite_neg (by omega) (lquote_loop s (by omega) (L s) 0 [34] rfl (by simp) (by omega))
theorem rquote_loop (s : ByteArray) (hs : s.size ≤ 4096) : ∀ (r : List UInt8) (i : Nat) (A : List UInt8), (L s).drop i = r → A.length ≤ 1 + 4 * i → i ≤ s.size →
    Ev (fun k => treadleref12_Quote.l0 k s hexB (nums A) i) (mkB (A ++ (r.flatMap enc ++ [34])), 0)
  | [], i, A, h, hA, hi => by
    have := drop_none h; rw [L_length] at this
    refine Ev.step (fun k => treadleref12_Quote.l0.eq_2 _ _ _ _ k) (Ev.ite_neg (by omega) (Ev.ite_pos (by rw [nums_len]; omega) (Ev.some_ ?_)))
    have e : nums A ++ [34] = nums (A ++ [34]) := by rw [← nums_app]; rfl
    rw [e, strOfNums_nums]; rfl
  | c :: r, i, A, h, hA, hi => by
    obtain ⟨hb, hi'⟩ := bt_drop h
    have ih := rquote_loop s hs r (i + 1) (A ++ enc c) (drop_some h).2.2 (quo_snoc hA) (by omega)
    have hres : A ++ enc c ++ (r.flatMap enc ++ [34]) = A ++ ((c :: r).flatMap enc ++ [34]) := by simp
    rw [hres] at ih
    have hAl : A.length ≤ 20000 := by omega
    have hsz : (hexB.size : Int) = 16 := rfl
    have hgo : ∀ ys : List Int, ys = nums (enc c) → Ev (fun k => (some (ys : List Int)).bind fun y => if (nums A).length + y.length < 140737488355328 then treadleref12_Quote.l0 k s hexB (nums A ++ y) (wrap64 ((i : Int) + 1)) else none) (mkB (A ++ ((c :: r).flatMap enc ++ [34])), 0) := fun ys hy => by
      have hel := (enc_len c).2
      refine Ev.bind_now rfl (Ev.ite_pos (by rw [hy, nums_len, nums_len]; omega) ?_)
      rw [hy, nums_app, wrap_succ (by omega)]; exact ih
    refine Ev.step (fun k => treadleref12_Quote.l0.eq_2 _ _ _ _ k) (Ev.ite_pos (by omega) (Ev.ite_pos (by omega) ?_))
    rw [hb]
    by_cases h1 : c.toNat = 10
    · exact Ev.ite_pos (by omega) (hgo _ (by unfold enc; rw [if_pos h1]; rfl))
    refine Ev.ite_neg (by omega) ?_
    by_cases h2 : c.toNat = 9
    · exact Ev.ite_pos (by omega) (hgo _ (by unfold enc; rw [if_neg h1, if_pos h2]; rfl))
    refine Ev.ite_neg (by omega) ?_
    have hj : ∀ b : Bool, b = decide (c.toNat = 34 ∨ c.toNat = 92) → Ev (fun k => treadleref12_Quote.j1 k s hexB (nums A) i (c.toNat : Int) b) (mkB (A ++ ((c :: r).flatMap enc ++ [34])), 0) := fun b hb' => by
      refine Ev.step (fun k => treadleref12_Quote.j1.eq_2 _ _ _ _ _ _ k) ?_
      by_cases h3 : c.toNat = 34 ∨ c.toNat = 92
      · exact Ev.ite_pos (by rw [hb']; exact decide_eq_true h3) (hgo _ (by unfold enc; rw [if_neg h1, if_neg h2, if_pos h3]; rfl))
      refine Ev.ite_neg (by rw [hb', decide_eq_false h3]; simp) ?_
      have hq1 : (c.toNat : Int) / 16 = ((c.toNat / 16 : Nat) : Int) := by omega
      have hc256 := c.toNat_lt
      have hx1 := hexAt ⟨c.toNat / 16, by omega⟩
      have hx2 := hexAt ⟨c.toNat % 16, by omega⟩
      simp only at hx1 hx2
      by_cases h4 : c.toNat < 32
      · refine Ev.ite_neg (by omega) ?_
        rw [and15, hq1, hx1, hx2, hsz]
        refine Ev.ite_pos (by omega) (Ev.ite_pos (by omega) (Ev.ite_pos (by omega) (Ev.ite_pos (by omega) (hgo _ ?_))))
        unfold enc; rw [if_neg h1, if_neg h2, if_neg h3, if_pos (Or.inl h4)]; rfl
      refine Ev.ite_pos (by omega) ?_
      by_cases h5 : 126 < c.toNat
      · refine Ev.ite_neg (by omega) ?_
        rw [and15, hq1, hx1, hx2, hsz]
        refine Ev.ite_pos (by omega) (Ev.ite_pos (by omega) (Ev.ite_pos (by omega) (Ev.ite_pos (by omega) (hgo _ ?_))))
        unfold enc; rw [if_neg h1, if_neg h2, if_neg h3, if_pos (Or.inr h5)]; rfl
      refine Ev.ite_pos (by omega) (Ev.ite_pos (by rw [nums_len]; omega) ?_)
      have e : enc c = [c] := by unfold enc; rw [if_neg h1, if_neg h2, if_neg h3, if_neg (by omega)]
      have e2 : nums A ++ [(c.toNat : Int)] = nums (A ++ enc c) := by rw [e, ← nums_app]; rfl
      rw [e2, wrap_succ (by omega)]; exact ih
    by_cases h3 : c.toNat = 34
    · exact Ev.ite_pos (by omega) (hj _ (by simp [h3]))
    · refine Ev.ite_neg (by omega) (hj _ ?_)
      rw [Bool.eq_iff_iff]; simp [h3]; omega
theorem rquote (s : ByteArray) (hs : s.size ≤ 1048576) : Ev (fun k => treadleref12_Quote.f k s) (quoteR s) := by
  unfold treadleref12_Quote.f quoteR
  by_cases h : s.size > 4096
  · exact Ev.ite_pos (by omega) (Ev.some_ (by rw [if_pos h]))
  · rw [if_neg h]
    exact Ev.ite_neg (by omega) (rquote_loop s (by omega) (L s) 0 [34] rfl (by simp) (by omega))
theorem LexQuotes (s : ByteArray) (hs : s.size ≤ 1048576) : Ev (fun k => treadlelaw12_LexQuotes.f k s) true := by
  unfold treadlelaw12_LexQuotes.f
  refine Ev.bind (lquote s hs) (Ev.bind (rquote s hs) ?_)
  exact Ev.ite_pos rfl (Ev.ite_pos rfl (Ev.bind awake (Ev.some_ rfl)))

/-! ### LexBack -/
theorem hx_nib : ∀ n : Fin 16, nib (hx n.val) = some n.val := by decide +kernel
theorem pc_enc (c : UInt8) (l : List UInt8) : pc (enc c ++ l) = some (c, (enc c).length) ∧ ∃ d t, enc c ++ l = d :: t ∧ d.toNat ≠ 34 := by
  have hc256 := c.toNat_lt
  have e92 : (92 : UInt8).toNat = 92 := rfl
  unfold enc
  by_cases h1 : c.toNat = 10
  · rw [if_pos h1]
    have : c = 10 := by rw [← UInt8.toNat_inj]; exact h1
    subst this
    exact ⟨rfl, _, _, rfl, by decide⟩
  rw [if_neg h1]
  by_cases h2 : c.toNat = 9
  · rw [if_pos h2]
    have : c = 9 := by rw [← UInt8.toNat_inj]; exact h2
    subst this
    exact ⟨rfl, _, _, rfl, by decide⟩
  rw [if_neg h2]
  by_cases h3 : c.toNat = 34 ∨ c.toNat = 92
  · rw [if_pos h3]
    refine ⟨?_, _, _, rfl, by decide⟩
    show pc (92 :: c :: l) = _
    simp only [pc]
    rw [if_pos e92, if_neg (by omega), if_neg (by omega), if_pos h3]; rfl
  rw [if_neg h3]
  by_cases h4 : c.toNat < 32 ∨ 126 < c.toNat
  · rw [if_pos h4]
    refine ⟨?_, _, _, rfl, by decide⟩
    show pc (92 :: 120 :: hx (c.toNat / 16) :: hx (c.toNat % 16) :: l) = _
    have e120 : (120 : UInt8).toNat = 120 := rfl
    have hx1 := hx_nib ⟨c.toNat / 16, by omega⟩
    have hx2 := hx_nib ⟨c.toNat % 16, by omega⟩
    simp only at hx1 hx2
    simp only [pc]
    rw [if_pos e92, e120]
    simp only [hx1, hx2]
    simp only [Nat.reduceEqDiff, if_false, if_true, or_self, or_false]
    have : 16 * (c.toNat / 16) + c.toNat % 16 = c.toNat := by omega
    rw [this]; simp
  · rw [if_neg h4]
    refine ⟨?_, _, _, rfl, by omega⟩
    show pc (c :: l) = _
    simp only [pc]
    rw [if_neg (by omega), if_neg (by omega)]; rfl
theorem ql_enc : ∀ (t : List UInt8) (f : Nat), (t.flatMap enc).length + 1 < f → ql f (t.flatMap enc ++ [34]) = some (t, (t.flatMap enc).length + 1)
  | [], f, h => by
    cases f with
    | zero => omega
    | succ f => rfl
  | c :: t, f, h => by
    cases f with
    | zero => omega
    | succ f =>
      have hl := enc_len c
      have e : (c :: t).flatMap enc ++ [34] = enc c ++ (t.flatMap enc ++ [34]) := by simp
      have e2 : ((c :: t).flatMap enc).length = (enc c).length + (t.flatMap enc).length := by simp
      obtain ⟨hp, d, u, hd, hq⟩ := pc_enc c (t.flatMap enc ++ [34])
      rw [e, e2]
      rw [e2] at h
      have hdrop : (enc c ++ (t.flatMap enc ++ [34])).drop (enc c).length = t.flatMap enc ++ [34] := List.drop_left
      have ih := ql_enc t f (by omega)
      rw [hd] at hp hdrop ⊢
      unfold ql
      rw [if_neg hq, hp]
      simp only
      rw [hdrop, ih]
      simp only
      rw [Nat.add_assoc]
theorem text_quote (t : List UInt8) (ht : t.length ≤ 4096) : textR (34 :: (t.flatMap enc ++ [34])) = (mkB t, 0) := by
  have hq : quo (t.flatMap enc ++ [34]) = some (t, (t.flatMap enc).length + 1 + 1) := by
    unfold quo
    rw [ql_enc t _ (by rw [List.length_append]; simp)]
    simp only
    rw [if_pos ht]
  unfold textR
  simp only
  rw [if_pos (by decide), hq]
  simp only
  rw [if_pos (by simp)]
theorem pc_short {l : List UInt8} {b : UInt8} {n : Nat} (h : pc l = some (b, n)) : (enc b).length ≤ n := by
  have h4 := (enc_len b).2
  have h2 : b.toNat = 10 ∨ b.toNat = 9 ∨ b.toNat = 34 ∨ b.toNat = 92 → (enc b).length ≤ 2 := fun hb => by
    unfold enc
    by_cases h1 : b.toNat = 10
    · rw [if_pos h1]; simp
    rw [if_neg h1]
    by_cases h2 : b.toNat = 9
    · rw [if_pos h2]; simp
    rw [if_neg h2, if_pos (by omega)]; simp
  unfold pc at h
  split at h
  · cases h
  · rename_i c r
    split at h
    · split at h
      · cases h
      · rename_i d r'
        split at h
        · injection h with h; injection h with h1 h3; subst h1; subst h3; exact h2 (Or.inl rfl)
        · split at h
          · injection h with h; injection h with h1 h3; subst h1; subst h3; exact h2 (Or.inr (Or.inl rfl))
          · split at h
            · rename_i hd
              injection h with h; injection h with h1 h3; subst h1; subst h3; exact h2 (by omega)
            · split at h
              · split at h
                · split at h
                  · injection h with h; injection h with h1 h3; subst h1; subst h3; exact h4
                  · cases h
                · cases h
              · cases h
    · rename_i h92
      split at h
      · cases h
      · rename_i hn
        injection h with h; injection h with h1 h3; subst h1; subst h3
        unfold enc
        rw [if_neg (by omega), if_neg (by omega), if_neg (by omega), if_neg (by omega)]; simp
theorem ql_short : ∀ (f : Nat) (l t : List UInt8) (m : Nat), ql f l = some (t, m) → (t.flatMap enc).length + 1 ≤ m
  | 0, l, t, m, h => by cases h
  | f + 1, [], t, m, h => by cases h
  | f + 1, c :: r, t, m, h => by
    unfold ql at h
    split at h
    · injection h with h; injection h with h1 h; subst h1; subst h; simp
    · split at h
      · cases h
      · rename_i b n hp
        have hs := pc_short hp
        split at h
        · cases h
        · rename_i t' m' hq
          have ih := ql_short f _ t' m' hq
          injection h with h; injection h with h1 h; subst h1; subst h
          rw [List.flatMap_cons, List.length_append]; omega
theorem textR_ok {l : List UInt8} {t : ByteArray} {e : Int} (h : textR l = (t, e)) : (e = 122) ∨ (e = 0 ∧ t.size ≤ 4096 ∧ ((L t).flatMap enc).length + 2 ≤ l.length) := by
  unfold textR at h
  split at h
  · injection h with _ h; exact Or.inl h.symm
  · rename_i c r
    split at h
    · split at h
      · injection h with _ h; exact Or.inl h.symm
      · rename_i t' n hq
        split at h
        · rename_i hn
          injection h with h1 h; subst h1; subst h
          refine Or.inr ⟨rfl, ?_⟩
          unfold quo at hq
          split at hq
          · cases hq
          · rename_i t2 m hq2
            split at hq
            · rename_i hle
              injection hq with hq; injection hq with q1 q2; subst q1
              have := ql_short _ _ _ _ hq2
              rw [size_eq_L, L_mkB]
              exact ⟨hle, by omega⟩
            · cases hq
        · injection h with _ h; exact Or.inl h.symm
    · injection h with _ h; exact Or.inl h.symm
theorem LexBack (a b : ByteArray) (ha : a.size ≤ 1048576) (hb : b.size ≤ 1048576) : Ev (fun k => treadlelaw12_LexBack.f k a b) true := by
  unfold treadlelaw12_LexBack.f
  refine Ev.bind (lquote a ha) ?_
  unfold quoteR
  by_cases h : a.size > 4096
  · rw [if_pos h]
    exact Ev.ite_neg (by decide) (Ev.ite_pos rfl (Ev.ite_pos (by omega) (Ev.bind awake (Ev.some_ rfl))))
  rw [if_neg h]
  have hlen : ∀ t : List UInt8, t.length ≤ 4096 → (mkB (34 :: (t.flatMap enc ++ [34]))).size ≤ 1048576 := fun t ht => by
    have : ∀ u : List UInt8, (u.flatMap enc).length ≤ 4 * u.length := fun u => by
      induction u with
      | nil => simp
      | cons c r ih =>
        have := (enc_len c).2
        rw [List.flatMap_cons, List.length_append, List.length_cons]; omega
    have h1 := this t
    rw [size_eq_L, L_mkB, List.length_cons, List.length_append, List.length_singleton]; omega
  have hla : (L a).length ≤ 4096 := by rw [L_length]; omega
  have ht := ltext (mkB (34 :: ((L a).flatMap enc ++ [34]))) (hlen (L a) hla)
  rw [L_mkB, text_quote (L a) hla, mkB_L] at ht
  refine Ev.ite_pos rfl (Ev.bind ht (Ev.ite_pos rfl ?_))
  refine Ev.step (fun k => treadlelaw12_LexBack.j0.eq_2 _ _ k) (Ev.ite_neg (by simp) ?_)
  refine Ev.bind (ltext b hb) ?_
  cases hx : textR (L b) with
  | mk t e =>
    rcases textR_ok hx with he | ⟨he, hsz, hsh⟩
    · subst he
      exact Ev.ite_neg (by simp) (Ev.ite_pos rfl (Ev.bind awake (Ev.some_ rfl)))
    · subst he
      refine Ev.ite_pos rfl ?_
      have hq := lquote t (by omega)
      unfold quoteR at hq
      rw [if_neg (by omega)] at hq
      have hlt : (L t).length ≤ 4096 := by rw [L_length]; omega
      have ht2 := ltext (mkB (34 :: ((L t).flatMap enc ++ [34]))) (hlen (L t) hlt)
      rw [L_mkB, text_quote (L t) hlt, mkB_L] at ht2
      refine Ev.bind hq (Ev.bind ht2 (Ev.ite_pos rfl (Ev.ite_pos rfl (Ev.ite_pos rfl (Ev.ite_pos ?_ (Ev.bind awake (Ev.some_ rfl)))))))
      have hz : (mkB (34 :: ((L t).flatMap enc ++ [34]))).size = ((L t).flatMap enc).length + 2 := by
        rw [size_eq_L, L_mkB, List.length_cons, List.length_append, List.length_singleton]
      rw [L_length] at hsh
      simp only
      rw [hz]; omega

end Go.Proofs.YtflmcglppeehgaaDoor.Pure
