/- Layer 4, path: the pure laws PathParts, PathInside, PathBack, PathSplits. -/
import Derived.Test.YtaolgiojjeopkaaDoorPathLawsA
namespace Go.Proofs.YtaolgiojjeopkaaDoor.Pure
open Go.RowKit Go.Proofs.YtaolgiojjeopkaaDoor.P Go.Proofs.YtaolgiojjeopkaaDoor.Base Go.Proofs.YtaolgiojjeopkaaDoorW.PrintWords Go.Proofs.YtaolgiojjeopkaaDoorW.PrintLast Go.Proofs.YtaolgiojjeopkaaDoorW.PrintMore
set_option linter.unusedVariables false
set_option linter.unusedSimpArgs false

/-! ### a path's names, and back -/
def pc (x : ByteArray) : Prop := (47 : UInt8) ∉ L x ∧ L x ≠ []
theorem nm_pc {x : ByteArray} (h : nm x = true) : pc x ∧ L x ≠ [46] ∧ L x ≠ [46, 46] := by
  unfold nm at h
  simp only [Bool.and_eq_true, decide_eq_true_eq] at h
  obtain ⟨⟨⟨⟨h1, h2⟩, h3⟩, h4⟩, h5⟩ := h
  refine ⟨⟨fun h6 => ?_, fun h6 => ?_⟩, h3, h4⟩
  · have := List.all_eq_true.mp h5 47 h6
    revert this; decide
  · have := L_length x; rw [h6] at this; simp at this; omega
theorem sp_two (cur a b : List UInt8) (h : (47 : UInt8) ∉ a) : sp cur (a ++ 47 :: b) = (cur ++ a) :: sp [] b := by
  induction a generalizing cur with
  | nil => simp [sp]
  | cons c a ih =>
    simp at h
    rw [List.cons_append, sp, if_neg (Ne.symm h.1), ih _ h.2]; simp
theorem sp_txt (x : ByteArray) (r : List ByteArray) (h : ∀ y ∈ x :: r, (47 : UInt8) ∉ L y) : sp [] (txtL (x :: r)) = (x :: r).map L := by
  induction r generalizing x with
  | nil => simp only [txtL, txtTail, List.map_nil, List.flatten_nil, List.append_nil, List.map_cons]; rw [sp_none _ _ (h x (by simp))]; rfl
  | cons y r ih =>
    have e : txtL (x :: y :: r) = L x ++ 47 :: txtL (y :: r) := by simp [txtL, txtTail]
    rw [e, sp_two _ _ _ (h x (by simp)), ih y (fun z hz => h z (List.mem_cons_of_mem _ hz))]
    simp
theorem pieces_txt (x : ByteArray) (r : List ByteArray) (h : ∀ y ∈ x :: r, (47 : UInt8) ∉ L y) : pieces (txt (x :: r)) = x :: r := by
  unfold pieces txt
  rw [L_mkB, sp_txt x r h, List.map_map]
  have : (mkB ∘ L) = id := by funext s; exact mkB_L s
  rw [this, List.map_id]
theorem txtL_ne (x : ByteArray) (r : List ByteArray) (h : L x ≠ []) : txtL (x :: r) ≠ [] := by
  intro e; simp [txtL] at e; exact h (by simpa [L] using e.1)
theorem all_mem {l : List ByteArray} (h : l.all nm = true) {x : ByteArray} (hx : x ∈ l) : nm x = true := List.all_eq_true.mp h x hx
theorem namesOf_txt (l : List ByteArray) (h : l.all nm = true) (hl : l.length ≤ 32) : namesOf (txt l) = some l := by
  cases l with
  | nil => rfl
  | cons x r =>
    have hp : ∀ y ∈ x :: r, (47 : UInt8) ∉ L y := fun y hy => (nm_pc (all_mem h hy)).1.1
    unfold namesOf
    rw [if_neg, pieces_txt x r hp, if_pos ⟨hl, h⟩]
    unfold txt; rw [L_mkB]
    exact txtL_ne x r (nm_pc (all_mem h (by simp))).1.2
theorem sp_join (cur l : List UInt8) : ∃ p r, sp cur l = p :: r ∧ p ++ (r.map (fun x => 47 :: x)).flatten = cur ++ l := by
  induction l generalizing cur with
  | nil => exact ⟨cur, [], rfl, by simp⟩
  | cons c l ih =>
    by_cases hc : c = 47
    · subst hc
      obtain ⟨p, r, h1, h2⟩ := ih []
      refine ⟨cur, p :: r, by simp [sp, h1], ?_⟩
      simp only [List.map_cons, List.flatten_cons, List.cons_append]
      rw [h2]; simp
    · obtain ⟨p, r, h1, h2⟩ := ih (cur ++ [c])
      refine ⟨p, r, by rw [sp, if_neg hc, h1], ?_⟩
      rw [h2]; simp
theorem txt_pieces (s : ByteArray) : txt (pieces s) = s := by
  obtain ⟨p, r, h1, h2⟩ := sp_join [] (L s)
  unfold pieces txt
  rw [h1, List.map_cons]
  apply L_inj
  rw [L_mkB]
  simp only [txtL, txtTail, L_mkB, List.map_map]
  have : ((fun x => 47 :: L x) ∘ mkB) = (fun x => 47 :: x) := by funext x; simp [L_mkB]
  rw [this, h2]; rfl
theorem txt_namesOf {s : ByteArray} {n : List ByteArray} (h : namesOf s = some n) : txt n = s := by
  unfold namesOf at h
  split at h
  · rename_i h0; cases h; apply L_inj; rw [h0]; rfl
  · split at h
    · cases h; exact txt_pieces s
    · cases h
theorem txt_size (l : List ByteArray) (h : l.all nm = true) (hl : l.length ≤ 32) : (txt l).size ≤ 2080 := by
  have h1 := tot_nm l h
  have h2 := txtL_length l
  rw [size_eq_L]; unfold txt; rw [L_mkB]; omega

/-! ### PathParts -/
theorem joinP_step (base a b : ByteArray) (h : (joinP base [a]).2 = 0) : joinP base [a, b] = joinP (joinP base [a]).1 [b] ∧ (joinP base [a]).1.size ≤ 2080 := by
  unfold joinP at h ⊢
  cases hn : namesOf base with
  | none => rw [hn] at h; simp at h
  | some n =>
    rw [hn] at h
    obtain ⟨hn1, hn2⟩ := namesOf_nm hn
    by_cases hg : (gone n a).2 = 0
    · have e1 : joinN n [a] = ((gone n a).1, 0) := by simp [joinN, hg]
      have e2 : joinN n [a, b] = joinN (gone n a).1 [b] := by rw [joinN, if_pos hg]
      simp only [e1, e2] at h ⊢
      by_cases hl : (gone n a).1.length > 32
      · rw [if_pos trivial, if_pos hl] at h; simp at h
      · have ha := gone_nm n a hn1
        simp only [if_neg hl, if_true]
        rw [namesOf_txt _ ha (by omega)]
        exact ⟨rfl, txt_size _ ha (by omega)⟩
    · have e1 : joinN n [a] = ([], (gone n a).2) := by simp [joinN, hg]
      simp only [e1, if_neg hg] at h
      exact absurd h hg
theorem joinP_size (base : ByteArray) (more : List ByteArray) : (joinP base more).1.size ≤ 2080 := by
  unfold joinP
  have h0 : (⟨#[]⟩ : ByteArray).size ≤ 2080 := by decide
  cases hn : namesOf base with
  | none => exact h0
  | some n =>
    obtain ⟨hn1, hn2⟩ := namesOf_nm hn
    dsimp only
    split
    · split
      · exact h0
      · exact txt_size _ (joinN_nm _ _ hn1) (by omega)
    · exact h0
theorem PathParts (base a b : ByteArray) (hb : base.size ≤ 1048576) (_ha : a.size ≤ 1048576) (_hc : b.size ≤ 1048576) : Ev (fun k => treadlelaw04_PathParts.f k base a b) true := by
  unfold treadlelaw04_PathParts.f
  have fin : Ev (fun k => (treadlelaw04_awake.f k).bind fun t => some t) true := Ev.bind awake (Ev.some_ rfl)
  refine Ev.bind (pjoin base [a, b] hb (by simp)) (Ev.bind (pjoin base [a] hb (by simp)) (Ev.bind (pjoin _ [b] (by have := joinP_size base [a]; omega) (by simp)) ?_))
  have hj : ∀ x, x = true → (joinP base [a, b]).2 = (joinP (joinP base [a]).1 [b]).2 ∨ (joinP base [a]).2 ≠ 0 → Ev (fun k => treadlelaw04_PathParts.j0 k (joinP base [a, b]).1 (joinP base [a, b]).2 (joinP base [a]).2 (joinP (joinP base [a]).1 [b]).1 (joinP (joinP base [a]).1 [b]).2 x) true := fun x hx hh => by
    refine Ev.step (fun k => treadlelaw04_PathParts.j0.eq_2 _ _ _ _ _ _ k) (Ev.ite_pos hx ?_)
    by_cases h1 : (joinP base [a]).2 = 0
    · refine Ev.ite_pos h1 (Ev.ite_pos ?_ fin)
      rcases hh with hh | hh
      · exact hh
      · exact absurd h1 hh
    · exact Ev.ite_neg h1 fin
  have hcase : (joinP base [a]).2 = 0 → joinP base [a, b] = joinP (joinP base [a]).1 [b] := fun h => (joinP_step base a b h).1
  have hor : (joinP base [a, b]).2 = (joinP (joinP base [a]).1 [b]).2 ∨ (joinP base [a]).2 ≠ 0 := by
    by_cases h1 : (joinP base [a]).2 = 0
    · exact .inl (by rw [hcase h1])
    · exact .inr h1
  by_cases h0 : (joinP base [a, b]).2 = 0
  · refine Ev.ite_pos h0 ?_
    by_cases h1 : (joinP base [a]).2 = 0
    · refine Ev.ite_pos h1 ?_
      by_cases h2 : (joinP (joinP base [a]).1 [b]).2 = 0
      · refine Ev.step (fun k => treadlelaw04_PathParts.j0.eq_2 _ _ _ _ _ _ k) (Ev.ite_neg (by simp [h2]) (Ev.ite_pos ?_ fin))
        rw [hcase h1]
      · exact hj _ (by simp [h2]) hor
    · exact Ev.ite_neg h1 (hj _ rfl hor)
  · exact Ev.ite_neg h0 (hj _ rfl hor)

/-! ### both, Above -/
theorem pfirst (a b : Int) : Ev (fun k => api_Errno.f k [a, b]) (if a = 0 then b else a) := by
  unfold api_Errno.f
  refine Ev.step (fun k => api_Errno.l0.eq_2 _ _ _ _ k) ?_
  refine Ev.ite_pos (by simp) (Ev.ite_pos (by omega) (Ev.ite_pos (by simp) ?_))
  have e0 : rd [a, b] 0 = a := rfl
  have w1 : wrap64 (0 + 1) = 1 := wrap_succ (i := 0) (by omega)
  have w2 : wrap64 (1 + 1) = 2 := wrap_succ (i := 1) (by omega)
  rw [e0, w1]
  by_cases ha : a = 0
  · rw [if_pos ha]
    refine Ev.ite_pos ha ?_
    refine Ev.step (fun k => api_Errno.l0.eq_2 _ _ _ _ k) ?_
    refine Ev.ite_pos (by simp) (Ev.ite_pos (by omega) (Ev.ite_pos (by simp) ?_))
    have e1 : rd [a, b] 1 = b := rfl
    rw [e1, w2]
    by_cases hb : b = 0
    · refine Ev.ite_pos hb ?_
      refine Ev.step (fun k => api_Errno.l0.eq_2 _ _ _ _ k) ?_
      exact Ev.ite_neg (by simp) (Ev.some_ hb.symm)
    · exact Ev.ite_neg hb (Ev.some_ rfl)
  · rw [if_neg ha]
    exact Ev.ite_neg ha (Ev.some_ rfl)
/-- both's answer where both are paths; else an error. -/
def okB (a b : ByteArray) : Option (List ByteArray × List ByteArray) := match namesOf a, namesOf b with | some x, some y => some (x, y) | _, _ => none
theorem pboth (a b : ByteArray) (ha : a.size ≤ 1048576) (hb : b.size ≤ 1048576) : ∃ x y e, Ev (fun k => path_both.f k a b) (x, y, e) ∧ (match okB a b with | some (p, q) => x = p ∧ y = q ∧ e = 0 | none => e = 45) := by
  unfold path_both.f okB
  have h1 := pnames a (by omega)
  have h2 := pnames b (by omega)
  cases hx : namesOf a with
  | none =>
    rw [hx] at h1
    cases hy : namesOf b with
    | none => rw [hy] at h2; exact ⟨_, _, _, Ev.bind h1 (Ev.bind h2 (Ev.bind (pfirst 45 45) (Ev.some_ rfl))), rfl⟩
    | some y => rw [hy] at h2; exact ⟨_, _, _, Ev.bind h1 (Ev.bind h2 (Ev.bind (pfirst 45 0) (Ev.some_ rfl))), rfl⟩
  | some x =>
    rw [hx] at h1
    cases hy : namesOf b with
    | none => rw [hy] at h2; exact ⟨_, _, _, Ev.bind h1 (Ev.bind h2 (Ev.bind (pfirst 0 45) (Ev.some_ rfl))), rfl⟩
    | some y => rw [hy] at h2; exact ⟨_, _, _, Ev.bind h1 (Ev.bind h2 (Ev.bind (pfirst 0 0) (Ev.some_ rfl))), rfl, rfl, rfl⟩
theorem pequal_loop (a b : List ByteArray) (hl : a.length = b.length) (ha : a.length ≤ 1099511627776) : ∀ (r q : List ByteArray) (i : Nat), a.drop i = r → b.drop i = q →
    Ev (fun k => slices_Equal_string_string.l0 k a b (a.length : Int) i) (decide (r = q))
  | [], q, i, h, h' => by
    have hi := drop_none h
    have : q = [] := by rw [← h']; exact List.drop_eq_nil_of_le (by omega)
    subst this
    refine Ev.step (fun k => slices_Equal_string_string.l0.eq_2 _ _ _ _ k) ?_
    exact Ev.ite_neg (by omega) (Ev.some_ rfl)
  | x :: r, q, i, h, h' => by
    obtain ⟨h1, _, h3⟩ := drop_some h
    cases q with
    | nil => have := drop_none h'; omega
    | cons y q =>
      obtain ⟨g1, _, g3⟩ := drop_some h'
      refine Ev.step (fun k => slices_Equal_string_string.l0.eq_2 _ _ _ _ k) ?_
      refine Ev.ite_pos (by omega) (Ev.ite_pos (by omega) (Ev.ite_pos (by omega) (Ev.ite_pos (by omega) ?_)))
      rw [rdOf_drop h, rdOf_drop h', wrap_succ (by omega)]
      by_cases e : x = y
      · subst e
        refine Ev.ite_pos rfl ((pequal_loop a b hl ha r q (i + 1) h3 g3).eq ?_)
        simp
      · refine Ev.ite_neg (fun z => e (toList_inj.mp z)) (Ev.some_ ?_)
        simp [e]
theorem pequal (a b : List ByteArray) (ha : a.length ≤ 1099511627776) : Ev (fun k => slices_Equal_string_string.f k a b) (decide (a = b)) := by
  unfold slices_Equal_string_string.f
  by_cases h : (a.length : Int) = (b.length : Int)
  · exact Ev.ite_pos h (pequal_loop a b (by omega) ha a b 0 rfl rfl)
  · refine Ev.ite_neg h (Ev.some_ ?_)
    have : a ≠ b := fun e => h (by rw [e])
    simp [this]
def aboveP (a b : ByteArray) : Bool × Int := match okB a b with | some (x, y) => (decide (x.length < y.length) && decide (x = y.take x.length), 0) | none => (false, 45)
theorem pabove (a b : ByteArray) (ha : a.size ≤ 1048576) (hb : b.size ≤ 1048576) : Ev (fun k => path_Above.f k a b) (aboveP a b) := by
  unfold path_Above.f aboveP
  obtain ⟨x, y, e, hE, hh⟩ := pboth a b ha hb
  refine Ev.bind hE ?_
  cases ho : okB a b with
  | none => rw [ho] at hh; exact Ev.ite_neg (by simp [hh]) (Ev.some_ (by simp [hh]))
  | some p =>
    obtain ⟨p, q⟩ := p
    rw [ho] at hh
    obtain ⟨rfl, rfl, rfl⟩ := hh
    refine Ev.ite_pos rfl ?_
    have hx : x.length ≤ 32 := by
      unfold okB at ho
      cases hx : namesOf a with
      | none => rw [hx] at ho; cases ho
      | some x' =>
        cases hy : namesOf b with
        | none => rw [hx, hy] at ho; cases ho
        | some y' => rw [hx, hy] at ho; cases ho; exact (namesOf_nm hx).2
    by_cases hl : (x.length : Int) < (y.length : Int)
    · refine Ev.ite_pos hl (Ev.ite_pos (by omega) (Ev.ite_pos (by show (x.length : Int) ≤ (y.length : Int); omega) ?_))
      rw [Int.toNat_natCast]
      refine Ev.bind (pequal x (y.take x.length) (by omega)) (Ev.some_ ?_)
      simp [show x.length < y.length by omega]
    · refine Ev.ite_neg hl (Ev.some_ ?_)
      simp [show ¬ x.length < y.length by omega]

/-! ### PathInside -/
theorem goneL_names (n l : List ByteArray) (h : l.all nm = true) : goneL n l = (n ++ l, 0) := by
  induction l generalizing n with
  | nil => simp [goneL]
  | cons x r ih =>
    simp only [List.all_cons, Bool.and_eq_true] at h
    obtain ⟨⟨_, h1⟩, h2, h3⟩ := nm_pc h.1
    rw [goneL, if_neg (by rintro (e | e) <;> contradiction), if_neg h3, if_pos h.1, ih _ h.2]
    simp
theorem gone_txt (n l : List ByteArray) (h : l.all nm = true) (hl : l.length ≤ 32) : gone n (txt l) = (n ++ l, 0) := by
  have hs := txt_size l h hl
  unfold gone
  rw [if_neg (by omega)]
  cases l with
  | nil =>
    rw [if_neg (by decide)]
    have : pieces (txt []) = [⟨#[]⟩] := rfl
    rw [this, goneL, if_pos (.inl rfl), goneL]; simp
  | cons x r =>
    have hp : ∀ y ∈ x :: r, (47 : UInt8) ∉ L y := fun y hy => (nm_pc (all_mem h hy)).1.1
    rw [if_neg, pieces_txt x r hp, goneL_names _ _ h]
    unfold txt
    rw [L_mkB]
    intro e
    have h1 := nm_pc (all_mem h (List.mem_cons_self (a := x) (l := r)))
    cases hx : L x with
    | nil => exact h1.1.2 hx
    | cons c t =>
      simp only [txtL, hx, List.cons_append, List.head?_cons, Option.some.injEq] at e
      exact h1.1.1 (by rw [hx, e]; simp)
theorem cleanP_txt (l : List ByteArray) (h : l.all nm = true) (hl : l.length ≤ 32) : cleanP (txt l) = (txt l, 0) := by
  unfold cleanP joinP
  have e : namesOf ⟨#[]⟩ = some [] := rfl
  rw [e]
  have g := gone_txt [] l h hl
  simp only [joinN, g, if_true, List.nil_append]
  rw [if_neg (by omega)]
theorem goneL_up (n l : List ByteArray) (h : ∀ p ∈ l, L p ≠ [46, 46]) (h0 : (goneL n l).2 = 0) : ∃ t, (goneL n l).1 = n ++ t := by
  induction l generalizing n with
  | nil => exact ⟨[], by simp [goneL]⟩
  | cons p r ih =>
    have hp := h p (by simp)
    have hr : ∀ p ∈ r, L p ≠ [46, 46] := fun q hq => h q (List.mem_cons_of_mem _ hq)
    unfold goneL at h0 ⊢
    split
    · rename_i e; rw [if_pos e] at h0; exact ih n hr h0
    · rename_i e
      rw [if_neg e, if_neg hp] at h0
      split
      · rename_i e2
        rw [if_pos e2] at h0
        obtain ⟨t, ht⟩ := ih (n ++ [p]) hr h0
        exact ⟨p :: t, by rw [ht]; simp⟩
      · rename_i e2; rw [if_neg e2] at h0; simp at h0
theorem gone_up (n : List ByteArray) (s : ByteArray) (h : ∀ p ∈ pieces s, L p ≠ [46, 46]) (h0 : (gone n s).2 = 0) : ∃ t, (gone n s).1 = n ++ t := by
  unfold gone at h0 ⊢
  split
  · rename_i e; rw [if_pos e] at h0; simp at h0
  · rename_i e; rw [if_neg e] at h0
    split
    · rename_i e2; rw [if_pos e2] at h0; simp at h0
    · rename_i e2; rw [if_neg e2] at h0; exact goneL_up n _ h h0
theorem joinN_up (n l : List ByteArray) (h : ∀ s ∈ l, ∀ p ∈ pieces s, L p ≠ [46, 46]) (h0 : (joinN n l).2 = 0) : ∃ t, (joinN n l).1 = n ++ t := by
  induction l generalizing n with
  | nil => exact ⟨[], by simp [joinN]⟩
  | cons s r ih =>
    unfold joinN at h0 ⊢
    by_cases e : (gone n s).2 = 0
    · rw [if_pos e] at h0 ⊢
      obtain ⟨t, ht⟩ := gone_up n s (h s (by simp)) e
      obtain ⟨t2, ht2⟩ := ih _ (fun s hs => h s (List.mem_cons_of_mem _ hs)) h0
      exact ⟨t ++ t2, by rw [ht2, ht]; simp⟩
    · rw [if_neg e] at h0; exact absurd h0 e
theorem inside_pieces (base s : ByteArray) (more ps : List ByteArray) (j : Nat) (rest : Ev (fun k => treadlelaw04_PathInside.l0 k base more s ((j + 1 : Nat) : Int)) true ∨ ∃ p ∈ ps, L p = [46, 46]) (hj : j < 1099511627776) (hps : ps.length ≤ 1099511627776) : ∀ (r : List ByteArray) (i : Nat), ps.drop i = r → (∀ p ∈ ps.take i, L p ≠ [46, 46]) →
    Ev (fun k => treadlelaw04_PathInside.l1 k base more s j ps i) true
  | [], i, h, hi => by
    have h0 := drop_none h
    rw [List.take_of_length_le h0] at hi
    refine Ev.step (fun k => treadlelaw04_PathInside.l1.eq_2 _ _ _ _ _ _ k) (Ev.ite_neg (by omega) ?_)
    rw [wrap_succ (by omega)]
    rcases rest with h | ⟨p, hp, hd⟩
    · exact h
    · exact absurd hd (hi p hp)
  | x :: r, i, h, hi => by
    obtain ⟨h1, _, h3⟩ := drop_some h
    refine Ev.step (fun k => treadlelaw04_PathInside.l1.eq_2 _ _ _ _ _ _ k) (Ev.ite_pos (by omega) (Ev.ite_pos (by omega) ?_))
    rw [rdOf_drop h, wrap_succ (by omega)]
    by_cases e : x.toList = ([46, 46] : List UInt8)
    · exact Ev.ite_pos e (Ev.bind awake (Ev.some_ rfl))
    · refine Ev.ite_neg e (inside_pieces base s more ps j rest hj hps r (i + 1) h3 ?_)
      rw [take_drop_succ h]
      intro p hp
      rcases List.mem_append.mp hp with h | h
      · exact hi p h
      · simp at h; subst h; rw [← toList_L]; exact e
theorem inside_more (base s : ByteArray) (more : List ByteArray) (hm : more.length ≤ 1048576) (hz : ∀ s ∈ more, s.size ≤ 1048576)
    (fin : (∀ s ∈ more, ∀ p ∈ pieces s, L p ≠ [46, 46]) → Ev (fun k => treadlelaw04_PathInside.l0 k base more s (more.length : Int)) true) : ∀ (r : List ByteArray) (i : Nat), more.drop i = r → i ≤ more.length → (∀ s ∈ more.take i, ∀ p ∈ pieces s, L p ≠ [46, 46]) →
    Ev (fun k => treadlelaw04_PathInside.l0 k base more s i) true
  | [], i, h, hle, hi => by
    have h0 := drop_none h
    rw [List.take_of_length_le h0] at hi
    have : i = more.length := by omega
    subst this
    exact fin hi
  | x :: r, i, h, hle, hi => by
    obtain ⟨h1, _, h3⟩ := drop_some h
    have hs : x.size ≤ 1048576 := hz x (by have : x ∈ more.drop i := by rw [h]; simp
                                           exact List.mem_of_mem_drop this)
    refine Ev.step (fun k => treadlelaw04_PathInside.l0.eq_2 _ _ _ _ k) (Ev.ite_pos (by omega) (Ev.ite_pos (by omega) ?_))
    rw [rdOf_drop h]
    refine Ev.bind (rpieces x (by omega)) ?_
    have hpl := pieces_le x
    refine inside_pieces base s more (pieces x) i ?_ (by omega) (by omega) (pieces x) 0 rfl (by simp)
    by_cases hd : ∃ p ∈ pieces x, L p = [46, 46]
    · exact .inr hd
    · refine .inl (inside_more base s more hm hz fin r (i + 1) h3 (by omega) ?_)
      rw [take_drop_succ h]
      intro y hy p hp
      rcases List.mem_append.mp hy with h | h
      · exact hi y h p hp
      · simp at h; subst h; exact fun e => hd ⟨p, hp, e⟩
theorem PathInside (base : ByteArray) (more : List ByteArray) (hb : base.size ≤ 1048576) (hm : more.length ≤ 1048576) (hz : ∀ s ∈ more, s.size ≤ 1048576) : Ev (fun k => treadlelaw04_PathInside.f k base more) true := by
  unfold treadlelaw04_PathInside.f
  have fin : Ev (fun k => (treadlelaw04_awake.f k).bind fun t => some t) true := Ev.bind awake (Ev.some_ rfl)
  refine Ev.bind (pjoin base more hb hm) ?_
  cases hn : namesOf base with
  | none =>
    have e : joinP base more = (⟨#[]⟩, 45) := by unfold joinP; rw [hn]
    rw [e]
    exact Ev.ite_neg (by simp) (Ev.ite_pos (by rw [toList_L]) fin)
  | some n =>
    obtain ⟨hn1, hn2⟩ := namesOf_nm hn
    by_cases h0 : (joinN n more).2 = 0 ∧ (joinN n more).1.length ≤ 32
    · obtain ⟨h0, hl⟩ := h0
      have ha := joinN_nm n more hn1
      have e : joinP base more = (txt (joinN n more).1, 0) := by unfold joinP; rw [hn]; simp only [h0, if_true]; rw [if_neg (by omega)]
      have hup := joinN_up n more
      generalize hl' : (joinN n more).1 = l at *
      rw [e]
      have hsz := txt_size l ha hl
      have hno := namesOf_txt l ha hl
      refine Ev.ite_pos rfl (Ev.bind (pclean (txt l)) (Ev.bind (pcheck (txt l) (by omega)) ?_))
      rw [hno, cleanP_txt l ha hl]
      refine Ev.ite_pos rfl (Ev.ite_pos rfl ?_)
      refine Ev.step (fun k => treadlelaw04_PathInside.j0.eq_2 _ _ _ _ k) (Ev.ite_neg (by simp) ?_)
      refine inside_more base (txt l) more hm hz ?_ more 0 rfl (by omega) (by simp)
      intro hnone
      obtain ⟨t, ht⟩ := hup hnone h0
      refine Ev.step (fun k => treadlelaw04_PathInside.l0.eq_2 _ _ _ _ k) (Ev.ite_neg (by omega) ?_)
      refine Ev.bind (pabove base (txt l) hb (by omega)) ?_
      have ho : okB base (txt l) = some (n, l) := by unfold okB; rw [hn, hno]
      have hab : aboveP base (txt l) = (decide (n.length < l.length) && decide (n = l.take n.length), 0) := by unfold aboveP; rw [ho]
      rw [hab]
      refine Ev.ite_pos rfl ?_
      have htake : n = l.take n.length := by rw [ht]; simp
      by_cases hlt : n.length < l.length
      · exact Ev.ite_pos (by simp [hlt, ← htake]) fin
      · refine Ev.ite_neg (by simp [hlt]) (Ev.ite_pos ?_ fin)
        have : t = [] := by
          have := congrArg List.length ht
          simp at this
          exact List.eq_nil_of_length_eq_zero (by omega)
        rw [this, List.append_nil] at ht
        rw [ht, txt_namesOf hn]
    · have e : (joinP base more).1 = ⟨#[]⟩ ∧ (joinP base more).2 ≠ 0 := by
        unfold joinP; rw [hn]; dsimp only
        by_cases h1 : (joinN n more).2 = 0
        · rw [if_pos h1, if_pos (by omega)]; exact ⟨rfl, by decide⟩
        · rw [if_neg h1]; exact ⟨rfl, h1⟩
      refine Ev.ite_neg e.2 (Ev.ite_pos ?_ fin)
      rw [e.1, toList_L]

/-! ### PathBack -/
abbrev dots : ByteArray := ⟨#[46, 46]⟩
def relN (x y : List ByteArray) : List ByteArray := List.replicate (x.length - com x y) dots ++ y.drop (com x y)
def relT (x y : List ByteArray) : ByteArray := if relN x y = [] then ⟨#[46]⟩ else txt (relN x y)
theorem com_spec (x y : List ByteArray) : x.take (com x y) = y.take (com x y) := by
  induction x generalizing y with
  | nil => simp [com]
  | cons a x ih =>
    cases y with
    | nil => simp [com]
    | cons b y =>
      unfold com
      split
      · rename_i e; subst e; simp [ih]
      · simp
theorem goneL_dots (x l : List ByteArray) (d : Nat) (hd : d ≤ x.length) : goneL x (List.replicate d dots ++ l) = goneL (x.take (x.length - d)) l := by
  induction d generalizing x with
  | zero => simp
  | succ d ih =>
    have hx : x ≠ [] := by intro e; subst e; simp at hd
    rw [List.replicate_succ, List.cons_append, goneL, if_neg (by decide), if_pos (by decide), if_neg hx, ih _ (by rw [List.length_dropLast]; omega)]
    congr 1
    rw [List.dropLast_eq_take, List.take_take, List.length_take]
    congr 1; omega
theorem tot_append (a b : List ByteArray) : tot (a ++ b) = tot a + tot b := by simp [tot]
theorem tot_dots (d : Nat) : tot (List.replicate d dots) = 3 * d := by
  induction d with
  | zero => rfl
  | succ d ih => rw [List.replicate_succ, tot_cons, ih]; have : dots.size = 2 := rfl; omega
theorem drop_nm {l : List ByteArray} (h : l.all nm = true) (n : Nat) : (l.drop n).all nm = true := by
  rw [List.all_eq_true] at h ⊢
  exact fun x hx => h x (List.mem_of_mem_drop hx)
theorem relN_tot (x y : List ByteArray) (hx : x.length ≤ 32) (hy : y.all nm = true) (hyl : y.length ≤ 32) : tot (relN x y) ≤ 2200 := by
  unfold relN
  rw [tot_append, tot_dots]
  have h1 := tot_nm _ (drop_nm hy (com x y))
  rw [List.length_drop] at h1
  omega
theorem gone_rel (x y : List ByteArray) (hx : x.length ≤ 32) (hy : y.all nm = true) (hyl : y.length ≤ 32) : gone x (relT x y) = (y, 0) := by
  have hc := com_le x y
  have hg : goneL x (relN x y) = (y, 0) := by
    unfold relN
    rw [goneL_dots _ _ _ (by omega), goneL_names _ _ (drop_nm hy _), show x.length - (x.length - com x y) = com x y by omega, com_spec, List.take_append_drop]
  have ht := relN_tot x y hx hy hyl
  unfold relT
  cases hr : relN x y with
  | nil =>
    rw [if_pos rfl]
    rw [hr, goneL] at hg
    unfold gone
    rw [if_neg (by decide), if_neg (by decide)]
    have : pieces ⟨#[46]⟩ = [⟨#[46]⟩] := rfl
    rw [this, goneL, if_pos (.inr rfl), goneL]; exact hg
  | cons p r =>
    rw [if_neg (by simp)]
    have hp : ∀ z ∈ p :: r, (47 : UInt8) ∉ L z ∧ L z ≠ [] := by
      rw [← hr]
      intro z hz
      unfold relN at hz
      rcases List.mem_append.mp hz with h | h
      · have := List.eq_of_mem_replicate h; subst this; exact ⟨by decide, by decide⟩
      · exact (nm_pc (all_mem hy (List.mem_of_mem_drop h))).1
    have hsz : (txt (p :: r)).size ≤ 2200 := by
      rw [size_eq_L]; unfold txt; rw [L_mkB]
      rw [hr] at ht
      exact Nat.le_trans (txtL_length _) ht
    unfold gone
    rw [if_neg (by omega), if_neg, pieces_txt p r (fun z hz => (hp z hz).1), ← hr, hg]
    unfold txt
    rw [L_mkB]
    intro e
    have h1 := hp p (by simp)
    cases hq : L p with
    | nil => exact h1.2 hq
    | cons c t =>
      simp only [txtL, hq, List.cons_append, List.head?_cons, Option.some.injEq] at e
      exact h1.1 (by rw [hq, e]; simp)
theorem prel_loop (y : List ByteArray) (n m : Nat) (hm : m ≤ 1048576) (hn : n ≤ y.length) (hy : y.length ≤ 1048576) (ht : tot (List.replicate m dots ++ y.drop n) ≤ 140737488355328) : ∀ (d i : Nat), i + d = m →
    Ev (fun k => path_Rel.l0 k y n (List.replicate i dots) m i) (if List.replicate m dots ++ y.drop n = [] then (⟨#[46]⟩, 0) else (txt (List.replicate m dots ++ y.drop n), 0))
  | 0, i, h => by
    have : i = m := by omega
    subst this
    refine Ev.step (fun k => path_Rel.l0.eq_2 _ _ _ _ _ k) ?_
    refine Ev.ite_neg (by omega) (Ev.ite_pos (by omega) (Ev.ite_pos (by omega) (Ev.bind_now rfl ?_)))
    rw [Int.toNat_natCast]
    refine Ev.ite_pos (by simp; omega) (Ev.bind_now rfl ?_)
    by_cases e : List.replicate i dots ++ y.drop n = []
    · rw [if_pos e]
      refine Ev.ite_pos (by rw [e]; rfl) (Ev.some_ rfl)
    · rw [if_neg e]
      refine Ev.ite_neg (fun z => e (List.eq_nil_of_length_eq_zero (by omega))) ?_
      exact Ev.bind_now (pjoins _ ht) (Ev.some_ rfl)
  | d + 1, i, h => by
    refine Ev.step (fun k => path_Rel.l0.eq_2 _ _ _ _ _ k) ?_
    refine Ev.ite_pos (by omega) (Ev.ite_pos (by simp; omega) ?_)
    rw [wrap_succ (by omega)]
    have e : List.replicate i dots ++ [dots] = List.replicate (i + 1) dots := by rw [List.replicate_succ']
    rw [e]
    exact prel_loop y n m hm hn hy ht d (i + 1) (by omega)
def relP (a b : ByteArray) : ByteArray × Int := match okB a b with | some (x, y) => (relT x y, 0) | none => (⟨#[]⟩, 45)
theorem okB_nm {a b : ByteArray} {x y : List ByteArray} (h : okB a b = some (x, y)) : namesOf a = some x ∧ namesOf b = some y := by
  unfold okB at h
  cases hx : namesOf a with
  | none => rw [hx] at h; cases h
  | some x' =>
    cases hy : namesOf b with
    | none => rw [hx, hy] at h; cases h
    | some y' => rw [hx, hy] at h; cases h; exact ⟨rfl, rfl⟩
theorem prel (a b : ByteArray) (ha : a.size ≤ 1048576) (hb : b.size ≤ 1048576) : Ev (fun k => path_Rel.f k a b) (relP a b) := by
  unfold path_Rel.f relP
  obtain ⟨x, y, e, hE, hh⟩ := pboth a b ha hb
  refine Ev.bind hE ?_
  cases ho : okB a b with
  | none => rw [ho] at hh; exact Ev.ite_neg (by simp [hh]) (Ev.some_ (by simp [hh]))
  | some p =>
    obtain ⟨p, q⟩ := p
    rw [ho] at hh
    obtain ⟨rfl, rfl, rfl⟩ := hh
    obtain ⟨hx, hy⟩ := okB_nm ho
    obtain ⟨hx1, hx2⟩ := namesOf_nm hx
    obtain ⟨hy1, hy2⟩ := namesOf_nm hy
    have hc := com_le x y
    refine Ev.ite_pos rfl (Ev.bind (pshared x y (by omega)) (Ev.ite_pos (by omega) (Ev.ite_pos (by show ((com x y : Nat) : Int) ≤ (x.length : Int); omega) ?_)))
    rw [Int.toNat_natCast]
    have ht := relN_tot x y hx2 hy1 hy2
    have := prel_loop y (com x y) (x.length - com x y) (by omega) hc.2 (by omega) (by unfold relN at ht; omega) (x.length - com x y) 0 (by omega)
    rw [List.length_drop]
    refine this.eq ?_
    show _ = (relT x y, 0)
    unfold relT relN
    split <;> rfl
theorem PathBack (a b : ByteArray) (ha : a.size ≤ 1048576) (hb : b.size ≤ 1048576) : Ev (fun k => treadlelaw04_PathBack.f k a b) true := by
  unfold treadlelaw04_PathBack.f
  have fin : Ev (fun k => (treadlelaw04_awake.f k).bind fun t => some t) true := Ev.bind awake (Ev.some_ rfl)
  refine Ev.bind (prel a b ha hb) ?_
  cases ho : okB a b with
  | none =>
    have e : relP a b = (⟨#[]⟩, 45) := by unfold relP; rw [ho]
    rw [e]
    refine Ev.ite_neg (by simp) (Ev.bind (pcheck a (by omega)) ?_)
    cases hx : namesOf a with
    | none => exact Ev.ite_neg (by simp) fin
    | some x =>
      refine Ev.ite_pos rfl (Ev.bind (pcheck b (by omega)) ?_)
      cases hy : namesOf b with
      | none => exact Ev.ite_neg (by simp) fin
      | some y => unfold okB at ho; rw [hx, hy] at ho; cases ho
  | some p =>
    obtain ⟨x, y⟩ := p
    obtain ⟨hx, hy⟩ := okB_nm ho
    obtain ⟨hx1, hx2⟩ := namesOf_nm hx
    obtain ⟨hy1, hy2⟩ := namesOf_nm hy
    have e : relP a b = (relT x y, 0) := by unfold relP; rw [ho]
    rw [e]
    refine Ev.ite_pos rfl (Ev.bind (pjoin a [relT x y] ha (by simp)) ?_)
    have hj : joinP a [relT x y] = (b, 0) := by
      unfold joinP
      rw [hx]
      have g := gone_rel x y hx2 hy1 hy2
      simp only [joinN, g, if_true]
      rw [if_neg (by omega), txt_namesOf hy]
    rw [hj]
    exact Ev.ite_pos rfl (Ev.ite_pos rfl fin)

/-! ### PathSplits -/
def splitP (s : ByteArray) : ByteArray × ByteArray × Int :=
  match namesOf s with
  | none => (⟨#[]⟩, ⟨#[]⟩, 45)
  | some l => if l = [] then (⟨#[]⟩, ⟨#[]⟩, 46) else (txt l.dropLast, l.getLastD ⟨#[]⟩, 0)
theorem take_dropLast (l : List ByteArray) : l.take (((l.length : Int) - 1)).toNat = l.dropLast := by
  rw [List.dropLast_eq_take]; congr 1; omega
theorem rd_last (l : List ByteArray) (h : l ≠ []) : rdOf ByteArray.empty l ((l.length : Int) - 1) = l.getLastD ⟨#[]⟩ := by
  have hl : 0 < l.length := List.length_pos_iff.mpr h
  unfold rdOf
  have e : (((l.length : Int) - 1)).toNat = l.length - 1 := by omega
  rw [e, List.getD_eq_getElem?_getD, List.getElem?_eq_getElem (by omega), List.getLastD_eq_getLast?, List.getLast?_eq_getElem?, List.getElem?_eq_getElem (by omega)]
  rfl
theorem dropLast_nm {l : List ByteArray} (h : l.all nm = true) : l.dropLast.all nm = true := by
  rw [List.all_eq_true] at h ⊢
  exact fun x hx => h x (List.dropLast_subset _ hx)
theorem psplitP (s : ByteArray) (hs : s.size ≤ 1048576) : Ev (fun k => path_Split.f k s) (splitP s) := by
  unfold path_Split.f splitP
  refine Ev.bind (pnames s (by omega)) ?_
  cases hn : namesOf s with
  | none => exact Ev.ite_neg (by simp) (Ev.some_ rfl)
  | some l =>
    obtain ⟨h1, h2⟩ := namesOf_nm hn
    refine Ev.ite_pos rfl ?_
    dsimp only
    have w : wrap64 ((l.length : Int) - 1) = (l.length : Int) - 1 := wrap_id (by omega) (by omega)
    rw [w]
    by_cases hl : l = []
    · subst hl; exact Ev.ite_pos (by simp) (Ev.some_ rfl)
    · have hp : 0 < l.length := List.length_pos_iff.mpr hl
      rw [if_neg hl, take_dropLast, rd_last l hl]
      have ht := tot_nm _ (dropLast_nm h1)
      rw [List.length_dropLast] at ht
      exact Ev.ite_neg (by omega) (Ev.ite_pos (by omega) (Ev.ite_pos (by omega) (Ev.bind_now (pjoins _ (by omega)) (Ev.ite_pos (by omega) (Ev.some_ rfl)))))
theorem last_split (l : List ByteArray) (h : l ≠ []) : l = l.dropLast ++ [l.getLastD ⟨#[]⟩] := by
  have h1 := List.dropLast_concat_getLast h
  rw [List.getLastD_eq_getLast?, List.getLast?_eq_some_getLast h]
  exact h1.symm
theorem PathSplits (s : ByteArray) (hs : s.size ≤ 1048576) : Ev (fun k => treadlelaw04_PathSplits.f k s) true := by
  unfold treadlelaw04_PathSplits.f
  have fin : Ev (fun k => (treadlelaw04_awake.f k).bind fun t => some t) true := Ev.bind awake (Ev.some_ rfl)
  have hsp := psplitP s hs
  refine Ev.bind (pnames s (by omega)) ?_
  unfold splitP at hsp
  cases hn : namesOf s with
  | none => exact Ev.ite_neg (by simp) fin
  | some l =>
    obtain ⟨h1, h2⟩ := namesOf_nm hn
    have htx := txt_namesOf hn
    rw [hn] at hsp
    dsimp only at hsp
    have hof : ofN l = (s, 0) := by unfold ofN; rw [if_pos h1, if_neg (by omega), htx]
    have hof2 := pof l (by omega)
    rw [hof] at hof2
    refine Ev.ite_pos rfl (Ev.bind hof2 (Ev.bind hsp ?_))
    refine Ev.ite_pos rfl (Ev.ite_pos rfl ?_)
    refine Ev.step (fun k => treadlelaw04_PathSplits.j0.eq_2 _ _ _ _ _ _ k) ?_
    by_cases hl : l = []
    · subst hl
      have h0 : s = ⟨#[]⟩ := by rw [← htx]; rfl
      subst h0
      simp only [if_true]
      exact Ev.ite_neg (by decide) (Ev.ite_neg (by decide) (Ev.ite_pos rfl fin))
    · simp only [if_neg hl]
      have hsz : 0 < s.size := by
        rw [← L_length, ← htx]
        cases l with
        | nil => exact absurd rfl hl
        | cons x r =>
          unfold txt; rw [L_mkB]
          exact List.length_pos_iff.mpr (txtL_ne x r (nm_pc (all_mem h1 (by simp))).1.2)
      refine Ev.ite_neg (by simp; rintro rfl; exact absurd hsz (by decide)) ?_
      have hd1 := dropLast_nm h1
      have hlast := last_split l hl
      have hnl : nm (l.getLastD ⟨#[]⟩) = true := by
        refine all_mem h1 ?_
        rw [hlast]; simp
      generalize hg : l.getLastD ⟨#[]⟩ = z at *
      have hdl : l.dropLast.length ≤ 32 := by rw [List.length_dropLast]; omega
      have hds := txt_size _ hd1 hdl
      have hno := namesOf_txt _ hd1 hdl
      refine Ev.ite_pos trivial (Ev.bind (pjoin _ [z] (by omega) (by simp)) (Ev.bind (pabove _ s (by omega) hs) ?_))
      have hz : txt [z] = z := by
        unfold txt
        apply L_inj; rw [L_mkB]; simp [txtL, txtTail, L]
      have hj : joinP (txt l.dropLast) [z] = (s, 0) := by
        unfold joinP
        rw [hno]
        have g := gone_txt l.dropLast [z] (by simp [hnl]) (by simp)
        rw [hz] at g
        rw [← hlast] at g
        simp only [joinN, g, if_true]
        rw [if_neg (by omega), htx]
      have hab : aboveP (txt l.dropLast) s = (true, 0) := by
        unfold aboveP okB
        rw [hno, hn]
        have hp : 0 < l.length := List.length_pos_iff.mpr hl
        simp only [Prod.mk.injEq, Bool.and_eq_true, decide_eq_true_eq, and_true, List.length_dropLast]
        exact ⟨by omega, List.dropLast_eq_take⟩
      rw [hj, hab]
      refine Ev.ite_pos rfl (Ev.ite_pos rfl (Ev.ite_pos rfl (Ev.ite_pos rfl (Ev.bind (pname z) (Ev.ite_pos (by simp [hnl]) fin)))))
end Go.Proofs.YtaolgiojjeopkaaDoor.Pure
