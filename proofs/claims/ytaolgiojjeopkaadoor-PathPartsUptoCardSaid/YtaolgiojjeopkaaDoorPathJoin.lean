/- Layer 4, path: names made a text again, and where written paths lead, in plain words. -/
import Derived.Test.YtaolgiojjeopkaaDoorPathSplit
namespace Go.Proofs.YtaolgiojjeopkaaDoor.Pure
open Go.RowKit Go.Proofs.YtaolgiojjeopkaaDoor.P Go.Proofs.YtaolgiojjeopkaaDoor.Base Go.Proofs.YtaolgiojjeopkaaDoorW.PrintWords Go.Proofs.YtaolgiojjeopkaaDoorW.PrintLast Go.Proofs.YtaolgiojjeopkaaDoorW.PrintMore
set_option linter.unusedVariables false
set_option linter.unusedSimpArgs false

/-! ### names with slashes between -/
def txtTail (r : List ByteArray) : List UInt8 := (r.map (fun x => 47 :: L x)).flatten
def txtL : List ByteArray → List UInt8
  | [] => []
  | x :: r => L x ++ txtTail r
def txt (l : List ByteArray) : ByteArray := mkB (txtL l)
def tot (l : List ByteArray) : Nat := (l.map (fun x => x.size + 1)).sum
theorem tot_cons (x : ByteArray) (r : List ByteArray) : tot (x :: r) = x.size + 1 + tot r := by simp [tot]
theorem txtTail_length (r : List ByteArray) : (txtTail r).length = tot r := by
  induction r with
  | nil => rfl
  | cons x r ih =>
    have e : txtTail (x :: r) = (47 :: L x) ++ txtTail r := by simp [txtTail]
    rw [e, List.length_append, ih, tot_cons, List.length_cons, L_length]
theorem txtL_length (l : List ByteArray) : (txtL l).length ≤ tot l := by
  cases l with
  | nil => simp [txtL]
  | cons x r => simp only [txtL, List.length_append, txtTail_length, tot_cons, L_length]; omega
theorem length_le_tot (l : List ByteArray) : l.length ≤ tot l := by
  induction l with
  | nil => simp
  | cons x r ih => rw [tot_cons, List.length_cons]; omega
theorem join_eq (l : List ByteArray) : Lib.join (l.map (·.data.toList)) slash.data.toList = txtL l := by
  cases l with
  | nil => rfl
  | cons x r =>
    rw [List.map_cons, Lib.join_cons]
    simp only [txtL, txtTail, Lib.joinTail, List.map_map]
    congr 1
theorem pjoins (l : List ByteArray) (h : tot l ≤ 140737488355328) : strings_Join.f l slash = some (txt l) := by
  unfold strings_Join.f
  rw [join_eq, if_pos ⟨Nat.le_trans (length_le_tot l) h, Nat.le_trans (txtL_length l) h⟩]
  rfl
theorem tot_nm (l : List ByteArray) (h : l.all nm = true) : tot l ≤ 65 * l.length := by
  induction l with
  | nil => simp [tot]
  | cons x r ih =>
    simp only [List.all_cons, Bool.and_eq_true] at h
    have := ih h.2
    have hx : x.size ≤ 64 := by
      have := h.1; unfold nm at this; simp at this; omega
    rw [tot_cons, List.length_cons]; omega
theorem rtext_loop (l : List ByteArray) (hl : l.length ≤ 1099511627776) : ∀ (r : List ByteArray) (i : Nat) (t : ByteArray), l.drop i = r → 0 < i → t.size + tot r ≤ 140737488355328 →
    Ev (fun k => treadleref04_text.l0 k l t i) (mkB (L t ++ txtTail r))
  | [], i, t, h, hi, hb => by
    have := drop_none h
    refine Ev.step (fun k => treadleref04_text.l0.eq_2 _ _ _ k) ?_
    refine Ev.ite_neg (by omega) (Ev.some_ ?_)
    simp [txtTail]
  | x :: r, i, t, h, hi, hb => by
    obtain ⟨h1, _, h3⟩ := drop_some h
    rw [tot_cons] at hb
    have hz : (t ++ slash).size = t.size + 1 := by rw [size_eq_L, L_append, List.length_append, L_length]; rfl
    refine Ev.step (fun k => treadleref04_text.l0.eq_2 _ _ _ k) ?_
    refine Ev.ite_pos (by omega) (Ev.ite_pos (by omega) (Ev.ite_pos (by omega) (Ev.ite_pos (by omega) ?_)))
    rw [rdOf_drop h, wrap_succ (by omega)]
    refine Ev.ite_pos (by rw [hz]; omega) ?_
    have hz2 : ((t ++ slash) ++ x).size = t.size + 1 + x.size := by rw [size_eq_L, L_append, List.length_append, L_length, L_length, hz]
    refine (rtext_loop l hl r (i + 1) _ h3 (by omega) (by rw [hz2]; omega)).eq ?_
    congr 1
    have e : txtTail (x :: r) = (47 :: L x) ++ txtTail r := by simp [txtTail]
    rw [e, L_append, L_append]; simp [L]
theorem rtext (l : List ByteArray) (h : tot l ≤ 1099511627776) : Ev (fun k => treadleref04_text.f k l) (txt l) := by
  unfold treadleref04_text.f
  cases l with
  | nil =>
    refine Ev.step (fun k => treadleref04_text.l0.eq_2 _ _ _ k) ?_
    exact Ev.ite_neg (by simp) (Ev.some_ rfl)
  | cons x r =>
    have hl := length_le_tot (x :: r)
    have ht := tot_cons x r
    refine Ev.step (fun k => treadleref04_text.l0.eq_2 _ _ _ k) ?_
    refine Ev.ite_pos (by simp <;> omega) (Ev.ite_neg (by omega) (Ev.ite_pos (by omega) ?_))
    have e0 : rdOf ByteArray.empty (x :: r) 0 = x := rfl
    have hz : (((⟨#[]⟩ : ByteArray)) ++ x).size = x.size := by rw [size_eq_L, L_append, List.length_append, L_length]; exact Nat.zero_add _
    rw [e0]
    refine Ev.ite_pos (by show 0 + x.size ≤ _; omega) ?_
    have := rtext_loop (x :: r) (by omega) r 1 ((⟨#[]⟩ : ByteArray) ++ x) rfl (by omega) (by rw [hz]; omega)
    have w : wrap64 (0 + 1) = ((1 : Nat) : Int) := wrap_succ (i := 0) (by omega)
    rw [w]
    refine this.eq ?_
    unfold txt txtL
    rw [L_append]; simp [L]

/-! ### Of -/
def ofN (l : List ByteArray) : ByteArray × Int := if l.all nm = true then if l.length > 32 then (⟨#[]⟩, 44) else (txt l, 0) else (⟨#[]⟩, 42)
theorem pof_loop (l : List ByteArray) (hl : l.length ≤ 8796093022207) : ∀ (r : List ByteArray) (i : Nat), l.drop i = r → (l.take i).all nm = true →
    Ev (fun k => path_Of.l0 k l l (l.length : Int) i) (ofN l)
  | [], i, h, ha => by
    have hi := drop_none h
    rw [List.take_of_length_le hi] at ha
    refine Ev.step (fun k => path_Of.l0.eq_2 _ _ _ _ k) ?_
    refine Ev.ite_neg (by omega) ?_
    unfold ofN
    rw [if_pos ha]
    by_cases hh : (l.length : Int) > 32
    · refine Ev.ite_pos hh (Ev.some_ ?_); rw [if_pos (by omega)]
    · refine Ev.ite_neg hh ?_
      have := tot_nm l ha
      refine Ev.bind_now (pjoins l (by omega)) (Ev.some_ ?_); rw [if_neg (by omega)]
  | x :: r, i, h, ha => by
    obtain ⟨h1, _, h3⟩ := drop_some h
    refine Ev.step (fun k => path_Of.l0.eq_2 _ _ _ _ k) ?_
    refine Ev.ite_pos (by omega) (Ev.ite_pos (by omega) (Ev.ite_pos (by omega) ?_))
    rw [rdOf_drop h, wrap_succ (by omega)]
    refine Ev.bind (pname x) ?_
    by_cases hx : nm x = true
    · refine Ev.ite_pos (by simp [hx]) (pof_loop l hl r (i + 1) h3 ?_)
      rw [take_drop_succ h]; simp [ha, hx]
    · refine Ev.ite_neg (by simp [hx]) (Ev.some_ ?_)
      have : ¬ (l.all nm = true) := by
        rw [← List.take_append_drop i l, h]; simp [hx]
      unfold ofN; rw [if_neg this]
theorem pof (l : List ByteArray) (hl : l.length ≤ 8796093022207) : Ev (fun k => path_Of.f k l) (ofN l) := pof_loop l hl l 0 rfl (by simp)
theorem rof_loop (l : List ByteArray) (hl : l.length ≤ 8796093022207) : ∀ (r : List ByteArray) (i : Nat), l.drop i = r → (l.take i).all nm = true →
    Ev (fun k => treadleref04_Of.l0 k l i) (ofN l)
  | [], i, h, ha => by
    have hi := drop_none h
    rw [List.take_of_length_le hi] at ha
    refine Ev.step (fun k => treadleref04_Of.l0.eq_2 _ _ k) ?_
    refine Ev.ite_neg (by omega) ?_
    unfold ofN
    rw [if_pos ha]
    by_cases hh : (l.length : Int) > 32
    · refine Ev.ite_pos hh (Ev.some_ ?_); rw [if_pos (by omega)]
    · refine Ev.ite_neg hh ?_
      have := tot_nm l ha
      refine Ev.bind (rtext l (by omega)) (Ev.some_ ?_); rw [if_neg (by omega)]
  | x :: r, i, h, ha => by
    obtain ⟨h1, _, h3⟩ := drop_some h
    refine Ev.step (fun k => treadleref04_Of.l0.eq_2 _ _ k) ?_
    refine Ev.ite_pos (by omega) (Ev.ite_pos (by omega) ?_)
    rw [rdOf_drop h, wrap_succ (by omega)]
    refine Ev.bind (rname x) ?_
    by_cases hx : nm x = true
    · refine Ev.ite_pos hx (rof_loop l hl r (i + 1) h3 ?_)
      rw [take_drop_succ h]; simp [ha, hx]
    · refine Ev.ite_neg hx (Ev.some_ ?_)
      have : ¬ (l.all nm = true) := by
        rw [← List.take_append_drop i l, h]; simp [hx]
      unfold ofN; rw [if_neg this]
theorem rof (l : List ByteArray) (hl : l.length ≤ 8796093022207) : Ev (fun k => treadleref04_Of.f k l) (ofN l) := rof_loop l hl l 0 rfl (by simp)

/-! ### gone -/
def goneL : List ByteArray → List ByteArray → List ByteArray × Int
  | n, [] => (n, 0)
  | n, p :: r => if L p = [] ∨ L p = [46] then goneL n r else if L p = [46, 46] then if n = [] then ([], 43) else goneL n.dropLast r else if nm p = true then goneL (n ++ [p]) r else ([], 42)
def gone (n : List ByteArray) (s : ByteArray) : List ByteArray × Int :=
  if s.size > 4096 then ([], 40) else if (L s).head? = some 47 then ([], 41) else goneL n (pieces s)
theorem take_last (n : List ByteArray) (h : n.length ≠ 0) (hb : n.length ≤ 17592186044416) : n.take ((wrap64 ((n.length : Int) - 1)) : Int).toNat = n.dropLast := by
  rw [List.dropLast_eq_take, wrap_id (by omega) (by omega)]
  congr 1; omega
theorem pgone_loop (l : List ByteArray) (hl : l.length ≤ 1099511627776) : ∀ (r : List ByteArray) (i : Nat) (n : List ByteArray), l.drop i = r → n.length + r.length ≤ 8796093022207 →
    Ev (fun k => path_gone.l0 k n l (l.length : Int) i) (goneL n r)
  | [], i, n, h, hb => by
    have hi := drop_none h
    refine Ev.step (fun k => path_gone.l0.eq_2 _ _ _ _ k) ?_
    exact Ev.ite_neg (by omega) (Ev.some_ rfl)
  | x :: r, i, n, h, hb => by
    obtain ⟨h1, _, h3⟩ := drop_some h
    rw [List.length_cons] at hb
    refine Ev.step (fun k => path_gone.l0.eq_2 _ _ _ _ k) ?_
    refine Ev.ite_pos (by omega) (Ev.ite_pos (by omega) (Ev.ite_pos (by omega) ?_))
    rw [rdOf_drop h]
    have jt : ∀ b : Bool, b = true → (L x = [] ∨ L x = [46]) → Ev (fun k => path_gone.j1 k n x l (l.length : Int) i x b) (goneL n (x :: r)) := fun b hb1 hx => by
      refine Ev.step (fun k => path_gone.j1.eq_2 _ _ _ _ _ _ _ k) ?_
      refine Ev.ite_pos hb1 ?_
      rw [wrap_succ (by omega)]
      refine (pgone_loop l hl r (i + 1) n h3 (by omega)).eq ?_
      rw [goneL, if_pos hx]
    by_cases e1 : x.toList = ([] : List UInt8)
    · refine Ev.ite_pos e1 (jt _ (by simp [e1]) (.inl ((toList_nil x).mp e1)))
    refine Ev.ite_neg e1 ?_
    by_cases e2 : x.toList = ([46] : List UInt8)
    · exact jt _ (by simp [e2]) (.inr (by rw [← toList_L]; exact e2))
    refine Ev.step (fun k => path_gone.j1.eq_2 _ _ _ _ _ _ _ k) ?_
    refine Ev.ite_neg (by simp [e2]) ?_
    have ne : ¬ (L x = [] ∨ L x = [46]) := by rw [← toList_L]; rintro (h | h) <;> contradiction
    rw [goneL, if_neg ne]
    rw [wrap_succ (i := i) (by omega)]
    by_cases e3 : x.toList = ([46, 46] : List UInt8)
    · rw [if_pos (by rw [← toList_L]; exact e3)]
      refine Ev.ite_pos e3 ?_
      by_cases hn : n = []
      · subst hn
        exact Ev.ite_pos rfl (Ev.some_ rfl)
      · have hn' : n.length ≠ 0 := by simpa using hn
        rw [if_neg hn]
        refine Ev.ite_neg (by omega) ?_
        have w : wrap64 ((n.length : Int) - 1) = (n.length : Int) - 1 := wrap_id (by omega) (by omega)
        refine Ev.ite_pos (by rw [w]; omega) (Ev.ite_pos (by rw [w]; omega) ?_)
        rw [take_last n hn' (by omega)]
        exact pgone_loop l hl r (i + 1) n.dropLast h3 (by rw [List.length_dropLast]; omega)
    · rw [if_neg (by rw [← toList_L]; exact e3)]
      refine Ev.ite_neg e3 (Ev.bind (pname x) ?_)
      by_cases hx : nm x = true
      · refine Ev.ite_pos (by simp [hx]) (Ev.ite_pos (by omega) ?_)
        refine (pgone_loop l hl r (i + 1) (n ++ [x]) h3 (by simp; omega)).eq ?_
        rw [if_pos hx]
      · refine Ev.ite_neg (by simp [hx]) (Ev.some_ ?_)
        rw [if_neg hx]
theorem rgone_loop (l : List ByteArray) (hl : l.length ≤ 1099511627776) : ∀ (r : List ByteArray) (i : Nat) (n : List ByteArray), l.drop i = r → n.length + r.length ≤ 8796093022207 →
    Ev (fun k => treadleref04_gone.l0 k n l i) (goneL n r)
  | [], i, n, h, hb => by
    have hi := drop_none h
    refine Ev.step (fun k => treadleref04_gone.l0.eq_2 _ _ _ k) ?_
    exact Ev.ite_neg (by omega) (Ev.some_ rfl)
  | x :: r, i, n, h, hb => by
    obtain ⟨h1, _, h3⟩ := drop_some h
    rw [List.length_cons] at hb
    refine Ev.step (fun k => treadleref04_gone.l0.eq_2 _ _ _ k) ?_
    refine Ev.ite_pos (by omega) (Ev.ite_pos (by omega) ?_)
    rw [rdOf_drop h]
    have jt : ∀ b : Bool, b = true → (L x = [] ∨ L x = [46]) → Ev (fun k => treadleref04_gone.j2 k n l i b) (goneL n (x :: r)) := fun b hb1 hx => by
      refine Ev.step (fun k => treadleref04_gone.j2.eq_2 _ _ _ _ k) ?_
      refine Ev.ite_pos hb1 ?_
      rw [wrap_succ (by omega)]
      refine (rgone_loop l hl r (i + 1) n h3 (by omega)).eq ?_
      rw [goneL, if_pos hx]
    by_cases e1 : x.toList = ([] : List UInt8)
    · refine Ev.ite_pos e1 (jt _ rfl (.inl ((toList_nil x).mp e1)))
    refine Ev.ite_neg e1 ?_
    by_cases e2 : x.toList = ([46] : List UInt8)
    · exact jt _ (by simp [e2]) (.inr (by rw [← toList_L]; exact e2))
    refine Ev.step (fun k => treadleref04_gone.j2.eq_2 _ _ _ _ k) ?_
    refine Ev.ite_neg (by simp [e2]) ?_
    have ne : ¬ (L x = [] ∨ L x = [46]) := by rw [← toList_L]; rintro (h | h) <;> contradiction
    rw [goneL, if_neg ne]
    rw [wrap_succ (i := i) (by omega), rdOf_drop h]
    refine Ev.ite_pos (by omega) (Ev.ite_pos (by omega) ?_)
    by_cases e3 : x.toList = ([46, 46] : List UInt8)
    · rw [if_pos (by rw [← toList_L]; exact e3)]
      refine Ev.ite_pos e3 ?_
      by_cases hn : n = []
      · subst hn
        exact Ev.ite_pos rfl (Ev.some_ rfl)
      · have hn' : n.length ≠ 0 := by simpa using hn
        rw [if_neg hn]
        refine Ev.ite_neg (by omega) ?_
        have w : wrap64 ((n.length : Int) - 1) = (n.length : Int) - 1 := wrap_id (by omega) (by omega)
        refine Ev.ite_pos (by rw [w]; omega) (Ev.ite_pos (by rw [w]; omega) ?_)
        rw [take_last n hn' (by omega)]
        exact rgone_loop l hl r (i + 1) n.dropLast h3 (by rw [List.length_dropLast]; omega)
    · rw [if_neg (by rw [← toList_L]; exact e3)]
      refine Ev.ite_neg e3 (Ev.bind (rname x) ?_)
      by_cases hx : nm x = true
      · refine Ev.ite_pos hx (Ev.ite_pos (by omega) ?_)
        refine (rgone_loop l hl r (i + 1) (n ++ [x]) h3 (by simp; omega)).eq ?_
        rw [if_pos hx]
      · refine Ev.ite_neg hx (Ev.some_ ?_)
        rw [if_neg hx]
theorem hasPrefix_slash (s : ByteArray) : strings_HasPrefix.f s slash = some (decide ((L s).head? = some 47)) := by
  unfold strings_HasPrefix.f stringslite_HasPrefix.f
  have h1 : (slash.size : Int) = 1 := rfl
  rw [h1]
  have hl := L_length s
  by_cases h : (s.size : Int) ≥ 1
  · rw [if_pos h, if_pos (by omega), if_pos (by omega)]
    simp only [Option.bind_some]
    rw [toList_L, toList_L, L_extract]
    congr 1
    obtain ⟨⟨l⟩⟩ := s
    cases l with
    | nil => simp at hl h; have : (⟨⟨[]⟩⟩ : ByteArray).size = 0 := rfl; omega
    | cons c r => simp [L, Bool.beq_eq_decide_eq]
  · rw [if_neg h]
    simp only [Option.bind_some]
    congr 1
    obtain ⟨⟨l⟩⟩ := s
    cases l with
    | nil => simp [L]
    | cons c r => have : (⟨⟨c :: r⟩⟩ : ByteArray).size = r.length + 1 := rfl; omega
theorem pgone (n : List ByteArray) (s : ByteArray) (hn : n.length ≤ 8796093000000) : Ev (fun k => path_gone.f k n s) (gone n s) := by
  unfold path_gone.f gone
  by_cases h1 : (s.size : Int) > 4096
  · refine Ev.ite_pos h1 (Ev.some_ ?_); rw [if_pos (by omega)]
  · refine Ev.ite_neg h1 (Ev.bind_now (hasPrefix_slash s) ?_)
    rw [if_neg (by omega)]
    by_cases h2 : (L s).head? = some 47
    · refine Ev.ite_pos (by simp [h2]) (Ev.some_ ?_); rw [if_pos h2]
    · refine Ev.ite_neg (by simp [h2]) (Ev.bind (psplit s (by omega)) ?_)
      rw [if_neg h2]
      have := pieces_le s
      exact pgone_loop (pieces s) (by omega) (pieces s) 0 n rfl (by omega)
theorem rgone (n : List ByteArray) (s : ByteArray) (hn : n.length ≤ 8796093000000) : Ev (fun k => treadleref04_gone.f k n s) (gone n s) := by
  unfold treadleref04_gone.f gone
  have hl := L_length s
  have jt : ∀ b : Bool, ¬ s.size > 4096 → b = decide ((L s).head? = some 47) → Ev (fun k => treadleref04_gone.j0 k n s b) (if (L s).head? = some 47 then ([], 41) else goneL n (pieces s)) := fun b hs hb => by
    refine Ev.step (fun k => treadleref04_gone.j0.eq_2 _ _ _ k) ?_
    by_cases h2 : (L s).head? = some 47
    · refine Ev.ite_pos (by simp [hb, h2]) (Ev.some_ ?_); rw [if_pos h2]
    · refine Ev.ite_neg (by simp [hb, h2]) (Ev.ite_pos (by simp; omega) (Ev.bind (rpieces s (by omega)) ?_))
      rw [if_neg h2]
      have := pieces_le s
      exact rgone_loop (pieces s) (by omega) (pieces s) 0 n rfl (by omega)
  by_cases h1 : (s.size : Int) > 4096
  · refine Ev.ite_pos h1 (Ev.some_ ?_); rw [if_pos (by omega)]
  · refine Ev.ite_neg h1 ?_
    rw [if_neg (by omega)]
    by_cases h2 : (s.size : Int) > 0
    · refine Ev.ite_pos h2 (Ev.ite_pos (by omega) (jt _ (by omega) ?_))
      obtain ⟨⟨l⟩⟩ := s
      cases l with
      | nil => have : (⟨⟨[]⟩⟩ : ByteArray).size = 0 := rfl; omega
      | cons c r =>
        have : bt (⟨⟨c :: r⟩⟩ : ByteArray) ((0 : Nat) : Int) = (c.toNat : Int) := (bt_drop (s := ⟨⟨c :: r⟩⟩) (i := 0) (c := c) (r := r) rfl).1
        have e0 : ((0 : Nat) : Int) = 0 := rfl
        rw [e0] at this
        rw [this]
        have e : (c.toNat : Int) = 47 ↔ c = 47 := by
          constructor
          · intro h; apply UInt8.toNat_inj.mp; show c.toNat = 47; omega
          · rintro rfl; rfl
        simp [L, e, Bool.beq_eq_decide_eq]
    · refine Ev.ite_neg h2 (jt _ (by omega) ?_)
      obtain ⟨⟨l⟩⟩ := s
      cases l with
      | nil => simp [L]
      | cons c r => have : (⟨⟨c :: r⟩⟩ : ByteArray).size = r.length + 1 := rfl; omega
theorem goneL_length (n r : List ByteArray) : (goneL n r).1.length ≤ n.length + r.length := by
  induction r generalizing n with
  | nil => simp [goneL]
  | cons p r ih =>
    unfold goneL
    rw [List.length_cons]
    split
    · have := ih n; omega
    · split
      · split
        · simp
        · have := ih n.dropLast; rw [List.length_dropLast] at this; omega
      · split
        · have := ih (n ++ [p]); simp at this; omega
        · simp
theorem gone_length (n : List ByteArray) (s : ByteArray) : (gone n s).1.length ≤ n.length + 4097 := by
  unfold gone
  split
  · simp
  · split
    · simp
    · have h1 := goneL_length n (pieces s); have h2 := pieces_le s; omega
theorem goneL_nm (n r : List ByteArray) (h : n.all nm = true) : (goneL n r).1.all nm = true := by
  induction r generalizing n with
  | nil => simpa [goneL] using h
  | cons p r ih =>
    unfold goneL
    split
    · exact ih n h
    · split
      · split
        · rfl
        · refine ih n.dropLast ?_
          rw [List.all_eq_true] at h ⊢
          exact fun x hx => h x (List.dropLast_subset _ hx)
      · split
        · rename_i hp; exact ih (n ++ [p]) (by simp only [List.all_append, h, Bool.true_and]; simp [hp])
        · rfl
theorem gone_nm (n : List ByteArray) (s : ByteArray) (h : n.all nm = true) : (gone n s).1.all nm = true := by
  unfold gone
  split
  · rfl
  · split
    · rfl
    · exact goneL_nm _ _ h
theorem goneL_err (n r : List ByteArray) (h : (goneL n r).2 ≠ 0) : (goneL n r).1 = [] := by
  induction r generalizing n with
  | nil => simp [goneL] at h
  | cons p r ih =>
    unfold goneL at h ⊢
    split
    · rename_i h1; rw [if_pos h1] at h; exact ih n h
    · rename_i h1; rw [if_neg h1] at h
      split
      · rename_i h2; rw [if_pos h2] at h
        split
        · rfl
        · rename_i h3; rw [if_neg h3] at h; exact ih _ h
      · rename_i h2; rw [if_neg h2] at h
        split
        · rename_i h3; rw [if_pos h3] at h; exact ih _ h
        · rfl
theorem gone_err (n : List ByteArray) (s : ByteArray) (h : (gone n s).2 ≠ 0) : (gone n s).1 = [] := by
  unfold gone at h ⊢
  split
  · rfl
  · rename_i h1; rw [if_neg h1] at h
    split
    · rfl
    · rename_i h2; rw [if_neg h2] at h; exact goneL_err _ _ h

/-! ### Join -/
def joinN : List ByteArray → List ByteArray → List ByteArray × Int
  | n, [] => (n, 0)
  | n, s :: r => if (gone n s).2 = 0 then joinN (gone n s).1 r else ([], (gone n s).2)
def joinP (base : ByteArray) (more : List ByteArray) : ByteArray × Int :=
  match namesOf base with
  | none => (⟨#[]⟩, 45)
  | some n => if (joinN n more).2 = 0 then if (joinN n more).1.length > 32 then (⟨#[]⟩, 44) else (txt (joinN n more).1, 0) else (⟨#[]⟩, (joinN n more).2)
theorem joinN_nm (n r : List ByteArray) (h : n.all nm = true) : (joinN n r).1.all nm = true := by
  induction r generalizing n with
  | nil => simpa [joinN] using h
  | cons s r ih =>
    unfold joinN
    split
    · exact ih _ (gone_nm _ _ h)
    · rfl
theorem joinN_length (n r : List ByteArray) : (joinN n r).1.length ≤ n.length + 4097 * r.length := by
  induction r generalizing n with
  | nil => simp [joinN]
  | cons s r ih =>
    unfold joinN
    have := gone_length n s
    rw [List.length_cons]
    split
    · have := ih (gone n s).1; omega
    · simp
theorem pjoin_bad (l : List ByteArray) (hl : l.length ≤ 1048576) (e : Int) (he : e ≠ 0) : ∀ (r : List ByteArray) (i : Nat) (n : List ByteArray), l.drop i = r →
    Ev (fun k => path_Join.l0 k n e l (l.length : Int) i) (⟨#[]⟩, e)
  | [], i, n, h => by
    have hi := drop_none h
    refine Ev.step (fun k => path_Join.l0.eq_2 _ _ _ _ _ k) ?_
    exact Ev.ite_neg (by omega) (Ev.ite_neg he (Ev.some_ rfl))
  | x :: r, i, n, h => by
    obtain ⟨h1, _, h3⟩ := drop_some h
    refine Ev.step (fun k => path_Join.l0.eq_2 _ _ _ _ _ k) ?_
    refine Ev.ite_pos (by omega) (Ev.ite_pos (by omega) (Ev.ite_pos (by omega) (Ev.ite_neg he ?_)))
    rw [wrap_succ (by omega)]
    exact pjoin_bad l hl e he r (i + 1) n h3
theorem hg2 {n m : List ByteArray} (i : Nat) (hb : n.length ≤ 32 + 4097 * i) (hg : m.length ≤ n.length + 4097) : m.length ≤ 32 + 4097 * (i + 1) := Nat.le_trans hg (Nat.le_trans (Nat.add_le_add_right hb 4097) (Nat.le_of_eq (by rw [Nat.mul_succ, Nat.add_assoc])))
theorem pjoin_loop (l : List ByteArray) (hl : l.length ≤ 1048576) : ∀ (r : List ByteArray) (i : Nat) (n : List ByteArray), l.drop i = r → n.all nm = true → n.length ≤ 32 + 4097 * i → i ≤ l.length →
    Ev (fun k => path_Join.l0 k n 0 l (l.length : Int) i) (if (joinN n r).2 = 0 then if (joinN n r).1.length > 32 then (⟨#[]⟩, 44) else (txt (joinN n r).1, 0) else (⟨#[]⟩, (joinN n r).2))
  | [], i, n, h, ha, hb, hi2 => by
    have hi := drop_none h
    refine Ev.step (fun k => path_Join.l0.eq_2 _ _ _ _ _ k) ?_
    refine Ev.ite_neg (by omega) (Ev.ite_pos rfl ?_)
    refine Ev.bind (pof n (by omega)) (Ev.some_ ?_)
    unfold ofN
    rw [if_pos ha]
    rfl
  | x :: r, i, n, h, ha, hb, hi2 => by
    obtain ⟨h1, _, h3⟩ := drop_some h
    refine Ev.step (fun k => path_Join.l0.eq_2 _ _ _ _ _ k) ?_
    refine Ev.ite_pos (by omega) (Ev.ite_pos (by omega) (Ev.ite_pos (by omega) (Ev.ite_pos rfl ?_)))
    rw [rdOf_drop h, wrap_succ (by omega)]
    refine Ev.bind (pgone n x (by omega)) ?_
    have hg := gone_length n x
    by_cases he : (gone n x).2 = 0
    · rw [he, joinN, if_pos he]
      exact pjoin_loop l hl r (i + 1) _ h3 (gone_nm _ _ ha) (hg2 i hb hg) (by omega)
    · rw [joinN, if_neg he]
      refine (pjoin_bad l hl _ he r (i + 1) _ h3).eq ?_
      rw [if_neg he]
theorem rjoin_loop (l : List ByteArray) (hl : l.length ≤ 1048576) : ∀ (r : List ByteArray) (i : Nat) (n : List ByteArray), l.drop i = r → n.all nm = true → n.length ≤ 32 + 4097 * i → i ≤ l.length →
    Ev (fun k => treadleref04_Join.l0 k l n i) (if (joinN n r).2 = 0 then if (joinN n r).1.length > 32 then (⟨#[]⟩, 44) else (txt (joinN n r).1, 0) else (⟨#[]⟩, (joinN n r).2))
  | [], i, n, h, ha, hb, hi2 => by
    have hi := drop_none h
    refine Ev.step (fun k => treadleref04_Join.l0.eq_2 _ _ _ k) ?_
    refine Ev.ite_neg (by omega) ?_
    rw [joinN, if_pos rfl]
    by_cases hh : (n.length : Int) > 32
    · refine Ev.ite_pos hh (Ev.some_ ?_); rw [if_pos (by show n.length > 32; omega)]
    · have := tot_nm n ha
      refine Ev.ite_neg hh (Ev.bind (rtext n (by omega)) (Ev.some_ ?_)); rw [if_neg (by show ¬ n.length > 32; omega)]
  | x :: r, i, n, h, ha, hb, hi2 => by
    obtain ⟨h1, _, h3⟩ := drop_some h
    refine Ev.step (fun k => treadleref04_Join.l0.eq_2 _ _ _ k) ?_
    refine Ev.ite_pos (by omega) (Ev.ite_pos (by omega) ?_)
    rw [rdOf_drop h, wrap_succ (by omega)]
    refine Ev.bind (rgone n x (by omega)) ?_
    have hg := gone_length n x
    by_cases he : (gone n x).2 = 0
    · refine Ev.ite_pos he ?_
      rw [joinN, if_pos he]
      exact rjoin_loop l hl r (i + 1) _ h3 (gone_nm _ _ ha) (hg2 i hb hg) (by omega)
    · refine Ev.ite_neg he (Ev.some_ ?_)
      rw [joinN, if_neg he, if_neg he]
theorem namesOf_nm {s : ByteArray} {n : List ByteArray} (h : namesOf s = some n) : n.all nm = true ∧ n.length ≤ 32 := by
  unfold namesOf at h
  split at h
  · cases h; exact ⟨rfl, by simp⟩
  · split at h
    · rename_i h1; cases h; exact ⟨h1.2, h1.1⟩
    · cases h
theorem pjoin (base : ByteArray) (more : List ByteArray) (hb : base.size ≤ 1048576) (hm : more.length ≤ 1048576) : Ev (fun k => path_Join.f k base more) (joinP base more) := by
  unfold path_Join.f joinP
  refine Ev.bind (pnames base (by omega)) ?_
  cases hn : namesOf base with
  | none => exact pjoin_bad more hm 45 (by decide) more 0 [] rfl
  | some n =>
    obtain ⟨h1, h2⟩ := namesOf_nm hn
    exact pjoin_loop more hm more 0 n rfl h1 (by omega) (by omega)
theorem rjoin (base : ByteArray) (more : List ByteArray) (hb : base.size ≤ 1048576) (hm : more.length ≤ 1048576) : Ev (fun k => treadleref04_Join.f k base more) (joinP base more) := by
  unfold treadleref04_Join.f joinP
  refine Ev.bind (rnames base (by omega)) ?_
  cases hn : namesOf base with
  | none => exact Ev.ite_neg (by simp) (Ev.some_ rfl)
  | some n =>
    obtain ⟨h1, h2⟩ := namesOf_nm hn
    refine Ev.ite_pos rfl ?_
    exact rjoin_loop more hm more 0 n rfl h1 (by omega) (by omega)
def cleanP (s : ByteArray) : ByteArray × Int := joinP ⟨#[]⟩ [s]
theorem pclean (s : ByteArray) : Ev (fun k => path_Clean.f k s) (cleanP s) := by
  unfold path_Clean.f
  exact Ev.bind (pjoin ⟨#[]⟩ [s] (by decide) (by simp)) (Ev.some_ rfl)
theorem rclean (s : ByteArray) : Ev (fun k => treadleref04_Clean.f k s) (cleanP s) := by
  unfold treadleref04_Clean.f
  exact Ev.bind (rjoin ⟨#[]⟩ [s] (by decide) (by simp)) (Ev.some_ rfl)
theorem awake : Ev (fun k => treadlelaw04_awake.f k) true := by
  unfold treadlelaw04_awake.f
  refine Ev.bind (pclean _) (Ev.bind (pclean _) ?_)
  refine Ev.ite_pos (by rw [toList_L]; decide) (Ev.ite_pos (by decide) (Ev.ite_pos (by decide) (Ev.bind (pname _) (Ev.some_ ?_))))
  decide
end Go.Proofs.YtaolgiojjeopkaaDoor.Pure
