import Derived.Test.YtflmcglppeehgaaDoorTLexLawsC
namespace Go.Proofs.YtflmcglppeehgaaDoor.Pure
open Go.RowKit Go.Proofs.YtflmcglppeehgaaDoor.P Go.Proofs.YtflmcglppeehgaaDoor.Base Go.Proofs.YtflmcglppeehgaaDoorW.PrintWords Go.Proofs.YtflmcglppeehgaaDoorW.PrintLast Go.Proofs.YtflmcglppeehgaaDoorW.PrintMore
set_option linter.unusedVariables false
set_option linter.unusedSimpArgs false
def Blank (u : List UInt8) : Prop := u = [] ∨ ∃ t, u = 32 :: t
theorem blank_tw (p : UInt8 → Bool) (hp : p 32 = false) (u : List UInt8) (hu : Blank u) : u.takeWhile p = [] := by
  rcases hu with rfl | ⟨t, rfl⟩
  · rfl
  · rw [List.takeWhile_cons, hp]; rfl
theorem tw_ext (p : UInt8 → Bool) (hp : p 32 = false) (u : List UInt8) (hu : Blank u) : ∀ l : List UInt8, l.all p = true → (l ++ u).takeWhile p = l
  | [], _ => blank_tw p hp u hu
  | c :: r, h => by
    rw [List.all_cons, Bool.and_eq_true] at h
    rw [List.cons_append, List.takeWhile_cons, if_pos h.1, tw_ext p hp u hu r h.2]
theorem pc_ext {l u : List UInt8} {b : UInt8} {n : Nat} (h : pc l = some (b, n)) : pc (l ++ u) = some (b, n) := by
  cases l with
  | nil => cases h
  | cons c r =>
    rw [List.cons_append]
    simp only [pc] at h ⊢
    by_cases h1 : c.toNat = 92
    · rw [if_pos h1] at h ⊢
      cases r with
      | nil => cases h
      | cons d r =>
        simp only at h
        rw [List.cons_append]
        simp only
        by_cases d1 : d.toNat = 110
        · rw [if_pos d1] at h ⊢; exact h
        rw [if_neg d1] at h ⊢
        by_cases d2 : d.toNat = 116
        · rw [if_pos d2] at h ⊢; exact h
        rw [if_neg d2] at h ⊢
        by_cases d3 : d.toNat = 34 ∨ d.toNat = 92
        · rw [if_pos d3] at h ⊢; exact h
        rw [if_neg d3] at h ⊢
        by_cases d4 : d.toNat = 120
        · rw [if_pos d4] at h ⊢
          match r, h with
          | [], h => cases h
          | [a], h => cases h
          | a :: b' :: r, h => exact h
        · rw [if_neg d4] at h; cases h
    · rw [if_neg h1] at h ⊢; exact h
theorem ql_ext : ∀ (f : Nat) (l u t : List UInt8) (q : Nat), ql f l = some (t, q) → ql f (l ++ u) = some (t, q)
  | 0, l, u, t, q, h => by cases h
  | f + 1, [], u, t, q, h => by cases h
  | f + 1, c :: r, u, t, q, h => by
    rw [List.cons_append]
    unfold ql at h ⊢
    by_cases h1 : c.toNat = 34
    · rw [if_pos h1] at h ⊢; exact h
    rw [if_neg h1] at h ⊢
    cases hp : pc (c :: r) with
    | none => rw [hp] at h; cases h
    | some z =>
      obtain ⟨b, n⟩ := z
      have hn := (pc_pos hp).2
      rw [hp] at h
      simp only at h
      cases hx : ql f ((c :: r).drop n) with
      | none => rw [hx] at h; cases h
      | some z =>
        obtain ⟨t', q'⟩ := z
        rw [hx] at h
        have hp' := pc_ext (u := u) hp
        rw [List.cons_append] at hp'
        rw [hp']
        simp only
        have e : (c :: (r ++ u)).drop n = (c :: r).drop n ++ u := by rw [← List.cons_append, List.drop_append_of_le_length hn]
        rw [e, ql_ext f _ u t' q' hx]
        exact h
theorem quo_ext {r t u : List UInt8} {n : Nat} (h : quo r = some (t, n)) : quo (r ++ u) = some (t, n) := by
  unfold quo at h ⊢
  cases hx : ql (r.length + 1) r with
  | none => rw [hx] at h; cases h
  | some z =>
    obtain ⟨t', q⟩ := z
    rw [hx] at h
    have h1 := ql_ext _ r u t' q (show ql ((r ++ u).length + 1) r = some (t', q) by rw [← hx]; exact ql_fuel _ _ r (by rw [List.length_append]; omega) (by omega))
    rw [h1]; exact h
theorem sgn_two : ∀ c : UInt8, [c, 32] ∉ twoSigns := by
  intro c h
  unfold twoSigns at h
  simp at h
theorem sgn_ext (l u : List UInt8) (h : sgn l ≠ 0) (hu : Blank u) (hl : l ≠ []) : sgn (l.take (sgn l) ++ u) = sgn l := by
  cases l with
  | nil => exact absurd rfl hl
  | cons c r =>
    by_cases ht : (c :: r).take 2 ∈ twoSigns
    · have e : sgn (c :: r) = 2 := by unfold sgn; rw [if_pos ht]
      have h2 := two_len _ ht
      rw [e]
      have e3 : ((c :: r).take 2 ++ u).take 2 = (c :: r).take 2 := by rw [List.take_append_of_le_length (by omega), List.take_take]; rfl
      unfold sgn
      rw [e3, if_pos ht]
    · have e : sgn (c :: r) = 1 := by
        unfold sgn at h ⊢
        rw [if_neg ht] at h ⊢
        simp only at h ⊢
        split
        · rfl
        · rename_i hx; rw [if_neg hx] at h; exact absurd rfl h
      have hc : c ∈ oneSigns := by
        unfold sgn at e
        rw [if_neg ht] at e
        simp only at e
        split at e
        · assumption
        · cases e
      rw [e]
      show sgn (c :: ([] ++ u)) = 1
      rw [List.nil_append]
      unfold sgn
      have h2 : ¬ (c :: u).take 2 ∈ twoSigns := by
        rcases hu with rfl | ⟨t, rfl⟩
        · intro hx; have := two_len _ hx; simp at this
        · exact sgn_two c
      rw [if_neg h2]
      simp only
      rw [if_pos hc]
theorem tok_ext (l u : List UInt8) (h : (tok l).2.2 = 0) (hu : Blank u) : tok (l.take (tok l).2.1 ++ u) = tok l := by
  have hpos := (tok_ok l h).1
  have hle := tok_le l
  cases l with
  | nil => cases h
  | cons c r =>
    change (tokC c r).2.2 = 0 at h
    change 1 ≤ (tokC c r).2.1 at hpos
    show tok ((c :: r).take (tokC c r).2.1 ++ u) = tokC c r
    obtain ⟨m, hm⟩ : ∃ m, (tokC c r).2.1 = m + 1 := ⟨(tokC c r).2.1 - 1, by omega⟩
    have hw32 : isW 32 = false := by decide
    have hd32 : isD 32 = false := by decide
    rw [hm, List.take_succ_cons, List.cons_append]
    show tokC c (r.take m ++ u) = tokC c r
    have et : c :: (r.take m ++ u) = (c :: r).take (m + 1) ++ u := by rw [List.take_succ_cons, List.cons_append]
    unfold tokC at h hm ⊢
    rw [et]
    by_cases h1 : isL c = true
    · rw [if_pos h1] at h hm ⊢
      rw [if_pos h1]
      have hn : ((c :: r).takeWhile isW).length = m + 1 := by
        by_cases h2 : 32 < ((c :: r).takeWhile isW).length
        · rw [if_pos h2] at h; cases h
        rw [if_neg h2] at hm
        split at hm <;> exact hm
      have htk := tw_take isW (c :: r)
      rw [hn] at htk
      have hext := tw_ext isW hw32 u hu ((c :: r).take (m + 1)) (by rw [htk]; exact tw_all isW _)
      have hlen : ((c :: r).take (m + 1)).length = m + 1 := by rw [htk]; exact hn
      rw [hext, hlen, hn, List.take_append_of_le_length (by omega), List.take_take, Nat.min_self]
    rw [if_neg h1] at h hm ⊢
    rw [if_neg h1]
    by_cases h2 : isD c = true
    · rw [if_pos h2] at h hm ⊢
      rw [if_pos h2]
      by_cases h3 : (numOk ((c :: r).take ((c :: r).takeWhile isD).length) && !headL ((c :: r).drop ((c :: r).takeWhile isD).length)) = true
      · rw [if_pos h3] at hm ⊢
        have hn : ((c :: r).takeWhile isD).length = m + 1 := hm
        have htk := tw_take isD (c :: r)
        rw [hn] at htk h3
        have hext := tw_ext isD hd32 u hu ((c :: r).take (m + 1)) (by rw [htk]; exact tw_all isD _)
        have hlen : ((c :: r).take (m + 1)).length = m + 1 := by rw [htk]; exact hn
        rw [hext, hlen, hn, List.take_append_of_le_length (by omega), List.take_take, Nat.min_self]
        rw [Bool.and_eq_true] at h3
        have hh : headL (((c :: r).take (m + 1) ++ u).drop (m + 1)) = false := by
          rw [List.drop_append_of_le_length (by omega), List.drop_eq_nil_of_le (by omega), List.nil_append]
          rcases hu with rfl | ⟨t, rfl⟩
          · rfl
          · show isL 32 = false; decide
        rw [hh, h3.1]; rfl
      · rw [if_neg h3] at h; cases h
    rw [if_neg h2] at h hm ⊢
    rw [if_neg h2]
    by_cases h3 : c.toNat = 34
    · rw [if_pos h3] at h hm ⊢
      rw [if_pos h3]
      cases hq : quo r with
      | none => rw [hq] at h; cases h
      | some z =>
        obtain ⟨t, n⟩ := z
        rw [hq] at hm
        rw [quo_ext (quo_cut (m := m) hq (by simp only at hm; omega))]
    rw [if_neg h3] at h hm ⊢
    rw [if_neg h3]
    by_cases h4 : sgn (c :: r) = 0
    · rw [if_pos h4] at h; cases h
    rw [if_neg h4] at hm ⊢
    simp only at hm
    have e := sgn_ext (c :: r) u h4 hu (by simp)
    rw [hm] at e
    rw [e, hm, if_neg (by omega)]
theorem gap_ext (l u : List UInt8) (n : Nat) (hn : 1 ≤ n) (hl : l ≠ []) (hg : gapL false l = 0) (hu : Blank u) : gapL false (l.take n ++ u) = 0 := by
  cases l with
  | nil => exact absurd rfl hl
  | cons c r =>
    obtain ⟨m, rfl⟩ : ∃ m, n = m + 1 := ⟨n - 1, by omega⟩
    rw [List.take_succ_cons, List.cons_append]
    unfold gapL at hg ⊢
    by_cases h1 : isSp c = true
    · rw [if_pos h1] at hg; omega
    rw [if_neg h1] at hg ⊢
    by_cases h2 : (isSl c && headSl r) = true
    · rw [if_pos h2] at hg; omega
    have h3 : ¬ (isSl c && headSl (r.take m ++ u)) = true := by
      rw [Bool.and_eq_true] at h2 ⊢
      intro ⟨ha, hb⟩
      apply h2
      refine ⟨ha, ?_⟩
      cases m with
      | zero =>
        rw [List.take_zero, List.nil_append] at hb
        rcases hu with rfl | ⟨t, rfl⟩
        · cases hb
        · exact absurd hb (by show ¬ isSl 32 = true; decide)
      | succ m =>
        cases r with
        | nil =>
          rw [List.take_nil, List.nil_append] at hb
          rcases hu with rfl | ⟨t, rfl⟩
          · cases hb
          · exact absurd hb (by show ¬ isSl 32 = true; decide)
        | cons d r => exact hb
    rw [if_neg h3]
def fillB (n : Int) : List UInt8 :=
  if Int.tmod n 6 = 0 then [32] else if Int.tmod n 6 = 1 then [9] else if Int.tmod n 6 = 2 then [10] else if Int.tmod n 6 = 3 then [13]
  else if Int.tmod n 6 = 4 then [47, 47, 32, 120, 10] else if Int.tmod n 6 = 5 then [47, 47, 34, 10] else []
def fill (l : List Int) : List UInt8 := l.flatMap fillB ++ [32]
theorem gap_fillB (n : Int) (t : List UInt8) : gapL false (fillB n ++ t) = (fillB n).length + gapL false t := by
  have h32 : gapL false (32 :: t) = 1 + gapL false t := by simp [gapL, isSp]
  have h9 : gapL false (9 :: t) = 1 + gapL false t := by simp [gapL, isSp]
  have h10 : gapL false (10 :: t) = 1 + gapL false t := by simp [gapL, isSp]
  have h13 : gapL false (13 :: t) = 1 + gapL false t := by simp [gapL, isSp]
  unfold fillB
  split
  · exact h32
  · split
    · exact h9
    · split
      · exact h10
      · split
        · exact h13
        · split
          · show gapL false (47 :: 47 :: 32 :: 120 :: 10 :: t) = _
            simp [gapL, isSp, isSl, headSl, isNl]; omega
          · split
            · show gapL false (47 :: 47 :: 34 :: 10 :: t) = _
              simp [gapL, isSp, isSl, headSl, isNl]; omega
            · simp
theorem gap_fill (l : List Int) (t : List UInt8) : gapL false (fill l ++ t) = (fill l).length + gapL false t := by
  unfold fill
  induction l with
  | nil => show gapL false (32 :: t) = _; simp [gapL, isSp]
  | cons n r ih =>
    rw [List.flatMap_cons, List.append_assoc, List.append_assoc, gap_fillB, ← List.append_assoc (r.flatMap fillB), ih]
    simp only [List.length_append]
    omega
def slice24 (l : List UInt8) (x : S24) : List UInt8 := (l.drop x.f1.toNat).take (x.f2.toNat - x.f1.toNat)
def outL (G : Nat → List UInt8) (l : List UInt8) : Nat → List S24 → List UInt8
  | _, [] => []
  | j, x :: r => G j ++ (slice24 l x ++ outL G l (j + 1) r)
def Rel (l out : List UInt8) (x y : S24) : Prop := x.f0 = y.f0 ∧ ∃ a b a' b' : Nat, x.f1 = a ∧ x.f2 = b ∧ y.f1 = a' ∧ y.f2 = b' ∧ a ≤ b ∧ b ≤ l.length ∧ a' ≤ b' ∧ b' ≤ out.length ∧ (l.drop a).take (b - a) = (out.drop a').take (b' - a')
def RelL (l out : List UInt8) : List S24 → List S24 → Prop
  | [], [] => True
  | x :: r, y :: s => Rel l out x y ∧ RelL l out r s
  | _, _ => False
theorem outL_blank (G : Nat → List UInt8) (hG : ∀ j, ∃ t, G j = 32 :: t) (l : List UInt8) (j : Nat) (T : List S24) : Blank (outL G l j T) := by
  cases T with
  | nil => exact Or.inl rfl
  | cons x r =>
    obtain ⟨t, ht⟩ := hG j
    exact Or.inr ⟨t ++ (slice24 l x ++ outL G l (j + 1) r), by rw [outL, ht]; rfl⟩
theorem spread_all (G : Nat → List UInt8) (hG : ∀ j, ∃ t, G j = 32 :: t) (hg : ∀ j t, gapL false (G j ++ t) = (G j).length + gapL false t) (l out : List UInt8) :
    ∀ (f i j : Nat) (P : List UInt8) (f' : Nat), i ≤ l.length → (alls f l i).2.1 = 0 → 0 < f → out = P ++ outL G l j (alls f l i).1 → l.length - i < f → out.length - P.length < f' →
    (alls f' out P.length).2.1 = 0 ∧ RelL l out (alls f l i).1 (alls f' out P.length).1
  | 0, i, j, P, f', hi, hw, h0, ho, hf, hf' => by omega
  | f + 1, i, j, P, 0, hi, hw, h0, ho, hf, hf' => by omega
  | f + 1, i, j, P, f' + 1, hi, hw, h0, ho, hf, hf' => by
    have hend := nx_end l i
    have hadv := nx_adv l i hi
    have htk := nx_tok l i
    unfold alls at hw ho
    rw [alls.eq_2 l i f]
    by_cases he : (nx l i).2.2.2 = 0
    · rw [if_pos he] at hw ho ⊢
      by_cases hk : (nx l i).1 = 0
      · rw [if_pos hk] at ho ⊢
        obtain ⟨e1, e2⟩ := hend he hk
        rw [e1, e2] at ho ⊢
        have hs : slice24 l ⟨((nx l i).1 : Int), (l.length : Int), (l.length : Int)⟩ = [] := by
          unfold slice24; simp
        have ho2 : out = P ++ G j := by rw [ho]; simp only [outL]; rw [hs]; simp
        have hol : out.length = P.length + (G j).length := by rw [ho2, List.length_append]
        have hd : out.drop P.length = G j := by rw [ho2, List.drop_left]
        have hgl : gapL false (G j) = (G j).length := by
          have := hg j []
          rw [List.append_nil] at this
          rw [this]; simp [gapL]
        have hn : nx out P.length = (0, out.length, out.length, 0) := by
          unfold nx
          rw [hd, hgl, if_pos hol.symm]
        rw [alls.eq_2 out P.length f', hn]
        refine ⟨rfl, ?_⟩
        show Rel l out _ _ ∧ True
        refine ⟨⟨?_, l.length, l.length, out.length, out.length, rfl, rfl, rfl, rfl, Nat.le_refl _, Nat.le_refl _, Nat.le_refl _, Nat.le_refl _, ?_⟩, trivial⟩
        · simp only; rw [hk]
        · simp
      · rw [if_neg hk] at hw ho ⊢
        obtain ⟨a1, a2⟩ := hadv he hk
        obtain ⟨b1, b2, b3⟩ := htk he hk
        generalize nx l i = x at *
        obtain ⟨k, a, b, e⟩ := x
        simp only at he hk a1 a2 b1 b2 b3 hw ho ⊢
        have hu := outL_blank G hG l (j + 1) (alls f l b).1
        have hs : slice24 l ⟨(k : Int), (a : Int), (b : Int)⟩ = (l.drop a).take (b - a) := by unfold slice24; simp
        have hsl : ((l.drop a).take (b - a)).length = b - a := by rw [List.length_take, List.length_drop]; omega
        have hne : l.drop a ≠ [] := by intro hx; have := drop_none hx; omega
        have ht := tok_ext (l.drop a) (outL G l (j + 1) (alls f l b).1) (by rw [b3]) hu
        rw [b3] at ht
        simp only at ht
        have hge := gap_ext (l.drop a) (outL G l (j + 1) (alls f l b).1) (b - a) (by omega) hne b1 hu
        have ho1 : out = P ++ (G j ++ ((l.drop a).take (b - a) ++ outL G l (j + 1) (alls f l b).1)) := by rw [ho]; simp only [outL]; rw [hs]
        have ho2 : out = (P ++ G j ++ (l.drop a).take (b - a)) ++ outL G l (j + 1) (alls f l b).1 := by rw [ho1]; simp only [List.append_assoc]
        have hlen : (P ++ G j ++ (l.drop a).take (b - a)).length = P.length + (G j).length + (b - a) := by rw [List.length_append, List.length_append, hsl]
        have hd : out.drop P.length = G j ++ ((l.drop a).take (b - a) ++ outL G l (j + 1) (alls f l b).1) := by rw [ho1, List.drop_left]
        have hd2 : out.drop (P.length + (G j).length) = (l.drop a).take (b - a) ++ outL G l (j + 1) (alls f l b).1 := by rw [← List.drop_drop, hd, List.drop_left]
        have hol : P.length + (G j).length + (b - a) ≤ out.length := by
          have := congrArg List.length ho2
          rw [List.length_append, hlen] at this; omega
        have hgg : gapL false (out.drop P.length) = (G j).length := by rw [hd, hg, hge]; rfl
        have hn : nx out P.length = (k, P.length + (G j).length, P.length + (G j).length + (b - a), 0) := by
          unfold nx
          rw [hgg, hd2, ht, if_neg (by omega), if_pos rfl]
        rw [alls.eq_2 out P.length f', hn]
        have ih := spread_all G hG hg l out f b (j + 1) (P ++ G j ++ (l.drop a).take (b - a)) f' a2 hw (by omega) ho2 (by omega) (by rw [hlen]; omega)
        rw [hlen] at ih
        simp only
        rw [if_pos trivial, if_neg hk]
        refine ⟨ih.1, ?_⟩
        show Rel l out _ _ ∧ _
        refine ⟨⟨rfl, a, b, _, _, rfl, rfl, rfl, rfl, by omega, a2, by omega, hol, ?_⟩, ih.2⟩
        have hsub : P.length + (G j).length + (b - a) - (P.length + (G j).length) = b - a := by omega
        rw [hd2, hsub, List.take_append_of_le_length (by rw [hsl]; exact Nat.le_refl _), List.take_take, Nat.min_self]
    · rw [if_neg he] at hw; exact absurd hw he
end Go.Proofs.YtflmcglppeehgaaDoor.Pure
