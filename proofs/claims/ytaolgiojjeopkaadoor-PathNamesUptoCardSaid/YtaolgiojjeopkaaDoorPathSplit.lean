/- Layer 4, path: strings.Split at a slash, and the names of a path, in plain words. -/
import Derived.Test.YtaolgiojjeopkaaDoorPathNames
namespace Go.Proofs.YtaolgiojjeopkaaDoor.Pure
open Go.RowKit Go.Proofs.YtaolgiojjeopkaaDoor.P Go.Proofs.YtaolgiojjeopkaaDoor.Base Go.Proofs.YtaolgiojjeopkaaDoorW.PrintWords Go.Proofs.YtaolgiojjeopkaaDoorW.PrintLast Go.Proofs.YtaolgiojjeopkaaDoorW.PrintMore
set_option linter.unusedVariables false
set_option linter.unusedSimpArgs false

/-! ### strings.Split(s, "/") -/
abbrev slash : ByteArray := ⟨#[47]⟩
theorem index_slash (s : ByteArray) : strings_Index.f s slash = some (Lib.indexByte (L s) 47) := rfl
theorem count_slash (s : ByteArray) : strings_Count.f s slash = some (((L s).count 47 : Nat) : Int) := rfl
theorem indexByte_spec (l : List UInt8) (c : UInt8) : (Lib.indexByte l c = -1 ∧ c ∉ l) ∨ ∃ m : Nat, Lib.indexByte l c = m ∧ m < l.length ∧ c ∉ l.take m ∧ l.drop m = c :: l.drop (m + 1) := by
  induction l with
  | nil => exact .inl ⟨rfl, by simp⟩
  | cons b l ih =>
    unfold Lib.indexByte
    by_cases hb : b = c
    · subst hb
      exact .inr ⟨0, by simp, by simp, by simp, by simp⟩
    · have hb' : (b == c) = false := by simpa using hb
      simp only [hb', Bool.false_eq_true, if_false]
      rcases ih with ⟨h1, h2⟩ | ⟨m, h1, h2, h3, h4⟩
      · left; rw [h1]; exact ⟨by simp, by simp [h2, Ne.symm hb]⟩
      · right
        refine ⟨m + 1, ?_, by simp; omega, ?_, by simpa using h4⟩
        · rw [h1, if_neg (by simp <;> omega)]; rfl
        · simp [h3, Ne.symm hb]
theorem sp_none (cur l : List UInt8) (h : (47 : UInt8) ∉ l) : sp cur l = [cur ++ l] := by
  induction l generalizing cur with
  | nil => simp [sp]
  | cons c r ih =>
    simp at h
    rw [sp, if_neg (Ne.symm h.1), ih _ h.2]; simp
theorem sp_at (cur l : List UInt8) (m : Nat) (h : (47 : UInt8) ∉ l.take m) (hd : l.drop m = 47 :: l.drop (m + 1)) : sp cur l = (cur ++ l.take m) :: sp [] (l.drop (m + 1)) := by
  induction m generalizing cur l with
  | zero =>
    cases l with
    | nil => simp at hd
    | cons c r => simp at hd; subst hd; simp [sp]
  | succ m ih =>
    cases l with
    | nil => simp at hd
    | cons c r =>
      simp at h hd
      rw [sp, if_neg (Ne.symm h.1), ih _ _ h.2 hd]; simp
theorem set_rep (done : List ByteArray) (n : Nat) (x : ByteArray) (h : 0 < n) : (done ++ List.replicate n (⟨#[]⟩ : ByteArray)).set done.length x = (done ++ [x]) ++ List.replicate (n - 1) (⟨#[]⟩ : ByteArray) := by
  cases n with
  | zero => omega
  | succ n => simp [List.replicate_succ]
theorem gens_loop (n : Nat) : ∀ (s : ByteArray) (done : List ByteArray) (hs : s.size + done.length ≤ 1099511627776) (hn : (L s).count 47 = n),
    Ev (fun k => strings_genSplit.l0 k s slash 0 ((done.length + n : Nat) : Int) (done ++ List.replicate (n + 1) (⟨#[]⟩ : ByteArray)) ((done.length : Nat) : Int)) (done ++ (sp [] (L s)).map mkB) := by
  induction n with
  | zero =>
    intro s done hs hn
    refine Ev.step (fun k => strings_genSplit.l0.eq_2 _ _ _ _ _ _ k) ?_
    refine Ev.ite_neg (by omega) (Ev.ite_pos (by omega) (Ev.ite_pos (by simp; omega) ?_))
    rw [wrap_succ (by omega)]
    refine Ev.ite_pos (by omega) (Ev.ite_pos (by simp) (Ev.some_ ?_))
    have e1 : ((done.length : Nat) : Int).toNat = done.length := by omega
    have e2 : ((done.length + 1 : Nat) : Int).toNat = done.length + 1 := by omega
    rw [e1, e2, set_rep _ _ _ (by omega)]
    have hm : (47 : UInt8) ∉ L s := List.count_eq_zero.mp hn
    rw [sp_none _ _ hm, List.take_of_length_le (by simp)]
    simp [mkB_L]
  | succ n ih =>
    intro s done hs hn
    refine Ev.step (fun k => strings_genSplit.l0.eq_2 _ _ _ _ _ _ k) ?_
    refine Ev.ite_pos (by omega) ?_
    refine Ev.bind_now (index_slash s) ?_
    have hsL := L_length s
    rcases indexByte_spec (L s) 47 with ⟨h1, h2⟩ | ⟨m, h1, h2, h3, h4⟩
    · rw [List.count_eq_zero.mpr h2] at hn; omega
    · rw [h1]
      refine Ev.ite_neg (by omega) ?_
      have w0 : wrap64 ((m : Int) + 0) = (m : Int) := by rw [Int.add_zero]; exact wrap_id (by omega) (by omega)
      have w1 : wrap64 ((m : Int) + (slash.size : Int)) = ((m + 1 : Nat) : Int) := wrap_succ (by omega)
      rw [w0, w1, wrap_succ (by omega)]
      refine Ev.ite_pos (by omega) (Ev.ite_pos (by omega) (Ev.ite_pos (by omega) (Ev.ite_pos (by simp; omega) (Ev.ite_pos (by omega) (Ev.ite_pos (by omega) ?_)))))
      have e1 : ((done.length : Nat) : Int).toNat = done.length := by omega
      have e2 : ((m + 1 : Nat) : Int).toNat = m + 1 := by omega
      have e3 : ((m : Nat) : Int).toNat = m := by omega
      rw [e1, e2, e3, set_rep _ _ _ (by omega)]
      have hx : L (s.extract (m + 1) s.size) = (L s).drop (m + 1) := by
        rw [L_extract]; apply List.take_of_length_le; simp <;> omega
      have hc : (L (s.extract (m + 1) s.size)).count 47 = n := by
        rw [hx]
        have := congrArg (List.count 47) (List.take_append_drop m (L s)).symm
        rw [List.count_append, List.count_eq_zero.mpr h3, h4, List.count_cons_self] at this
        omega
      have hz : (s.extract (m + 1) s.size).size + (m + 1) = s.size := by
        rw [size_eq_L (s.extract (m + 1) s.size), hx]; simp; omega
      have := ih (s.extract (m + 1) s.size) (done ++ [s.extract 0 m]) (by simp; omega) hc
      have e4 : ((done ++ [s.extract 0 m]).length + n : Nat) = done.length + (n + 1) := by simp; omega
      have e5 : (done ++ [s.extract 0 m]).length = done.length + 1 := by simp
      rw [e4, e5, show n + 1 = n + 1 + 1 - 1 by omega] at this
      refine this.eq ?_
      rw [hx, sp_at [] (L s) m h3 h4]
      have e6 : s.extract 0 m = mkB ((L s).take m) := by
        apply L_inj; rw [L_extract, L_mkB]; simp
      rw [e6]; simp
theorem psplit (s : ByteArray) (hs : s.size ≤ 549755813888) : Ev (fun k => strings_Split.f k s slash) (pieces s) := by
  unfold strings_Split.f
  refine Ev.bind (a := pieces s) ?_ (Ev.some_ rfl)
  unfold strings_genSplit.f
  refine Ev.ite_neg (by decide) (Ev.ite_neg (by rw [toList_L]; decide) (Ev.ite_pos (by decide) (Ev.bind_now (count_slash s) ?_)))
  have hc := List.count_le_length (a := (47 : UInt8)) (l := L s)
  have hl := L_length s
  rw [wrap_succ (by omega)]
  refine Ev.step (fun k => strings_genSplit.j0.eq_2 _ _ _ _ k) ?_
  have hm : mn (((L s).count 47 + 1 : Nat) : Int) (wrap64 ((s.size : Int) + 1)) = (((L s).count 47 + 1 : Nat) : Int) := by
    rw [wrap_succ (by omega)]; unfold mn; split <;> omega
  rw [hm]
  refine Ev.ite_pos (by omega) (Ev.ite_pos (by omega) ?_)
  have e1 : (((L s).count 47 + 1 : Nat) : Int).toNat = (L s).count 47 + 1 := by omega
  have e2 : wrap64 ((((L s).count 47 + 1 : Nat) : Int) - 1) = (((L s).count 47 : Nat) : Int) := by unfold wrap64; omega
  rw [e1, e2]
  have := gens_loop ((L s).count 47) s [] (by simp; omega) rfl
  simpa [pieces] using this

/-! ### the names of a path -/
def namesOf (s : ByteArray) : Option (List ByteArray) :=
  if L s = [] then some [] else if (pieces s).length ≤ 32 ∧ (pieces s).all nm = true then some (pieces s) else none
theorem pnames_loop (l0 : List ByteArray) (l : List ByteArray) (hl : l.length ≤ 1099511627776) : ∀ (r : List ByteArray) (i : Nat), l.drop i = r →
    Ev (fun k => path_Names.l0 k l0 l (l.length : Int) i) (if r.all nm = true then (l0, 0) else ([], 45))
  | [], i, h => by
    have := drop_none h
    refine Ev.step (fun k => path_Names.l0.eq_2 _ _ _ _ k) ?_
    exact Ev.ite_neg (by omega) (Ev.some_ (by simp))
  | x :: r, i, h => by
    obtain ⟨h1, _, h3⟩ := drop_some h
    refine Ev.step (fun k => path_Names.l0.eq_2 _ _ _ _ k) ?_
    refine Ev.ite_pos (by omega) (Ev.ite_pos (by omega) (Ev.ite_pos (by omega) ?_))
    rw [rdOf_drop h, wrap_succ (by omega)]
    refine Ev.bind (pname x) ?_
    by_cases hx : nm x = true
    · refine Ev.ite_pos (by simp [hx]) ((pnames_loop l0 l hl r (i + 1) h3).eq ?_)
      simp [hx]
    · refine Ev.ite_neg (by simp [hx]) (Ev.some_ ?_)
      simp [hx]
theorem rnames_loop (l : List ByteArray) (hl : l.length ≤ 1099511627776) : ∀ (r : List ByteArray) (i : Nat), l.drop i = r →
    Ev (fun k => treadleref04_Names.l0 k l i) (if r.all nm = true ∧ l.length ≤ 32 then (l, true) else ([], false))
  | [], i, h => by
    have := drop_none h
    refine Ev.step (fun k => treadleref04_Names.l0.eq_2 _ _ k) ?_
    refine Ev.ite_neg (by omega) ?_
    by_cases hh : (l.length : Int) > 32
    · refine Ev.ite_pos hh (Ev.some_ ?_); rw [if_neg (by omega)]
    · refine Ev.ite_neg hh (Ev.some_ ?_); rw [if_pos ⟨by simp, by omega⟩]
  | x :: r, i, h => by
    obtain ⟨h1, _, h3⟩ := drop_some h
    refine Ev.step (fun k => treadleref04_Names.l0.eq_2 _ _ k) ?_
    refine Ev.ite_pos (by omega) (Ev.ite_pos (by omega) ?_)
    rw [rdOf_drop h, wrap_succ (by omega)]
    refine Ev.bind (rname x) ?_
    by_cases hx : nm x = true
    · refine Ev.ite_pos hx ((rnames_loop l hl r (i + 1) h3).eq ?_)
      simp [hx]
    · refine Ev.ite_neg hx (Ev.some_ ?_)
      simp [hx]
theorem toList_nil (s : ByteArray) : s.toList = ([] : List UInt8) ↔ L s = [] := by rw [toList_L]
theorem pnames (s : ByteArray) (hs : s.size ≤ 549755813888) : Ev (fun k => path_Names.f k s) (match namesOf s with | some l => (l, 0) | none => ([], 45)) := by
  unfold path_Names.f namesOf
  by_cases h0 : L s = []
  · refine Ev.ite_pos ((toList_nil s).mpr h0) (Ev.some_ ?_); simp [h0]
  · refine Ev.ite_neg (fun h => h0 ((toList_nil s).mp h)) ?_
    refine Ev.bind (psplit s hs) ?_
    have hl := pieces_le s
    by_cases h1 : ((pieces s).length : Int) > 32
    · refine Ev.ite_pos h1 (Ev.some_ ?_)
      rw [if_neg h0, if_neg (by omega)]
    · refine Ev.ite_neg h1 ?_
      refine (pnames_loop (pieces s) (pieces s) (by omega) (pieces s) 0 rfl).eq ?_
      rw [if_neg h0]
      by_cases h2 : (pieces s).all nm = true
      · rw [if_pos h2, if_pos ⟨by omega, h2⟩]
      · rw [if_neg h2, if_neg (fun h => h2 h.2)]
theorem rnames (s : ByteArray) (hs : s.size ≤ 549755813888) : Ev (fun k => treadleref04_Names.f k s) (match namesOf s with | some l => (l, true) | none => ([], false)) := by
  unfold treadleref04_Names.f namesOf
  by_cases h0 : L s = []
  · refine Ev.ite_pos ((toList_nil s).mpr h0) (Ev.some_ ?_); simp [h0]
  · refine Ev.ite_neg (fun h => h0 ((toList_nil s).mp h)) ?_
    refine Ev.bind (rpieces s (by omega)) ?_
    have hl := pieces_le s
    refine (rnames_loop (pieces s) (by omega) (pieces s) 0 rfl).eq ?_
    rw [if_neg h0]
    by_cases h2 : (pieces s).all nm = true ∧ (pieces s).length ≤ 32
    · rw [if_pos h2, if_pos ⟨h2.2, h2.1⟩]
    · rw [if_neg h2, if_neg (fun h => h2 ⟨h.2, h.1⟩)]
end Go.Proofs.YtaolgiojjeopkaaDoor.Pure
