import Derived.Sort.Walk0
import Derived.Test.YtifachjefpcgcaaGreatDoorGBase
import Derived.Test.YtifachjefpcgcaaGreatDoorGPD
namespace Go.Proofs.YtifachjefpcgcaaGreatDoor.Pth
open Go.RowKit Go.Proofs.YtifachjefpcgcaaGreatDoor.P Go.Proofs.YtifachjefpcgcaaGreatDoor.Base Go.Proofs.YtifachjefpcgcaaGreatDoorW.PrintWords Go.Proofs.YtifachjefpcgcaaGreatDoorW.PrintLast Go.Proofs.YtifachjefpcgcaaGreatDoorW.PrintMore
set_option linter.unusedVariables false
set_option linter.unusedSimpArgs false
def okb (c : UInt8) : Bool := (decide (97 ≤ c.toNat) && decide (c.toNat ≤ 122)) || (decide (65 ≤ c.toNat) && decide (c.toNat ≤ 90)) || (decide (48 ≤ c.toNat) && decide (c.toNat ≤ 57)) || decide (c.toNat = 46) || decide (c.toNat = 95) || decide (c.toNat = 45)
def nm (s : ByteArray) : Bool := decide (1 ≤ s.size) && decide (s.size ≤ 64) && decide (L s ≠ [46]) && decide (L s ≠ [46, 46]) && (L s).all okb
theorem pname_step (s : ByteArray) (hs : s.size < 4611686018427387904) (i : Nat) (c : UInt8) (r : List UInt8) (h : (L s).drop i = c :: r) (k : Nat) :
  path_Name.l0 (k + 1) s s.size i = if okb c = true then path_Name.l0 k s s.size ((i + 1 : Nat) : Int) else some 42 := by
 obtain ⟨hb, hi⟩ := bt_drop h
 have h1 : (i : Int) < (s.size : Int) := by omega
 have h2 : (0 : Int) ≤ (i : Int) := by omega
 rw [path_Name.l0, if_pos h1, if_pos h2, if_pos h1, hb, wrap_succ (by omega)]
 unfold okb
 generalize path_Name.l0 k s s.size ((i + 1 : Nat) : Int) = X
 generalize c.toNat = n
 (repeat' split) <;> first | rfl | (exfalso; simp_all; done) | (exfalso; simp_all; omega)
theorem rname_step (s : ByteArray) (hs : s.size < 4611686018427387904) (i : Nat) (c : UInt8) (r : List UInt8) (h : (L s).drop i = c :: r) (k : Nat) :
  treadleref04_Name.l0 (k + 1) s i = if okb c = true then treadleref04_Name.l0 k s ((i + 1 : Nat) : Int) else some false := by
 obtain ⟨hb, hi⟩ := bt_drop h
 have h1 : (i : Int) < (s.size : Int) := by omega
 have h2 : (0 : Int) ≤ (i : Int) := by omega
 rw [treadleref04_Name.l0, if_pos h1, if_pos h2, hb, wrap_succ (by omega)]
 unfold okb
 generalize treadleref04_Name.l0 k s ((i + 1 : Nat) : Int) = X
 generalize c.toNat = n
 (repeat' split) <;> first | rfl | (exfalso; simp_all; done) | (exfalso; simp_all; omega)
theorem pname_loop (s : ByteArray) (hs : s.size < 4611686018427387904) : ∀ (r : List UInt8) (i : Nat), (L s).drop i = r → Ev (fun k => path_Name.l0 k s s.size i) (if r.all okb = true then 0 else 42)
 | [], i, h => by
  have := drop_none h
  rw [L_length] at this
  refine Ev.step (fun k => path_Name.l0.eq_2 _ _ _ k) ?_
  exact Ev.ite_neg (by omega) (Ev.some_ rfl)
 | c :: r, i, h => by
  refine Ev.step (fun k => pname_step s hs i c r h k) ?_
  by_cases hc : okb c = true
  ·refine Ev.ite_pos hc ((pname_loop s hs r (i + 1) (drop_some h).2.2).eq ?_)
   simp [hc]
  ·refine Ev.ite_neg hc (Ev.some_ ?_)
   simp [hc]
theorem rname_loop (s : ByteArray) (hs : s.size < 4611686018427387904) : ∀ (r : List UInt8) (i : Nat), (L s).drop i = r → Ev (fun k => treadleref04_Name.l0 k s i) (r.all okb)
 | [], i, h => by
  have := drop_none h
  rw [L_length] at this
  refine Ev.step (fun k => treadleref04_Name.l0.eq_2 _ _ k) ?_
  exact Ev.ite_neg (by omega) (Ev.some_ rfl)
 | c :: r, i, h => by
  refine Ev.step (fun k => rname_step s hs i c r h k) ?_
  by_cases hc : okb c = true
  ·refine Ev.ite_pos hc ((rname_loop s hs r (i + 1) (drop_some h).2.2).eq ?_)
   simp [hc]
  ·refine Ev.ite_neg hc (Ev.some_ ?_)
   simp [hc]
theorem pname (s : ByteArray) : Ev (fun k => path_Name.f k s) (if nm s = true then 0 else 42) := by
 unfold path_Name.f
 have hj : ∀ b : Bool, b = true → Ev (fun k => path_Name.j0 k s b) 42 := fun b hb => by
  refine Ev.step (fun k => path_Name.j0.eq_2 _ _ k) ?_
  exact Ev.ite_pos hb (Ev.some_ rfl)
 by_cases h1 : (s.size : Int) < 1
 ·refine Ev.ite_pos h1 ((hj _ rfl).eq ?_)
  rw [if_neg]; unfold nm; simp; omega
 refine Ev.ite_neg h1 ?_
 by_cases h2 : (s.size : Int) > 64
 ·refine Ev.ite_pos h2 ((hj _ rfl).eq ?_)
  rw [if_neg]; unfold nm; simp; omega
 refine Ev.ite_neg h2 ?_
 by_cases h3 : s.toList = ([46] : List UInt8)
 ·refine Ev.ite_pos h3 ((hj _ rfl).eq ?_)
  rw [toList_L] at h3
  rw [if_neg]; unfold nm; simp [h3]
 refine Ev.ite_neg h3 ?_
 by_cases h4 : s.toList = ([46, 46] : List UInt8)
 ·refine (hj _ (by simp [h4])).eq ?_
  rw [toList_L] at h4
  rw [if_neg]; unfold nm; simp [h4]
 ·refine Ev.step (fun k => path_Name.j0.eq_2 _ _ k) ?_
  refine Ev.ite_neg (by simp [h4]) ((pname_loop s (by omega) (L s) 0 rfl).eq ?_)
  rw [toList_L] at h3 h4
  have : nm s = (L s).all okb := by
   unfold nm
   simp [h3, h4, show 1 ≤ s.size by omega, show s.size ≤ 64 by omega]
  rw [this]
theorem rname (s : ByteArray) : Ev (fun k => treadleref04_Name.f k s) (nm s) := by
 unfold treadleref04_Name.f
 have hj : ∀ b : Bool, b = true → Ev (fun k => treadleref04_Name.j0 k s b) false := fun b hb => by
  refine Ev.step (fun k => treadleref04_Name.j0.eq_2 _ _ k) ?_
  exact Ev.ite_pos hb (Ev.some_ rfl)
 by_cases h1 : (s.size : Int) < 1
 ·refine Ev.ite_pos h1 ((hj _ rfl).eq ?_)
  unfold nm; simp; omega
 refine Ev.ite_neg h1 ?_
 by_cases h2 : (s.size : Int) > 64
 ·refine Ev.ite_pos h2 ((hj _ rfl).eq ?_)
  unfold nm; simp; omega
 refine Ev.ite_neg h2 ?_
 by_cases h3 : s.toList = ([46] : List UInt8)
 ·refine Ev.ite_pos h3 ((hj _ rfl).eq ?_)
  rw [toList_L] at h3
  unfold nm; simp [h3]
 refine Ev.ite_neg h3 ?_
 by_cases h4 : s.toList = ([46, 46] : List UInt8)
 ·refine (hj _ (by simp [h4])).eq ?_
  rw [toList_L] at h4
  unfold nm; simp [h4]
 ·refine Ev.step (fun k => treadleref04_Name.j0.eq_2 _ _ k) ?_
  refine Ev.ite_neg (by simp [h4]) ((rname_loop s (by omega) (L s) 0 rfl).eq ?_)
  rw [toList_L] at h3 h4
  unfold nm
  simp [h3, h4, show 1 ≤ s.size by omega, show s.size ≤ 64 by omega]
def sp (cur : List UInt8) : List UInt8 → List (List UInt8)
 | [] => [cur]
 | c :: r => if c = 47 then cur :: sp [] r else sp (cur ++ [c]) r
def pieces (s : ByteArray) : List ByteArray := (sp [] (L s)).map mkB
theorem sp_length (cur : List UInt8) (l : List UInt8) : (sp cur l).length = l.count 47 + 1 := by
 induction l generalizing cur with
 | nil => rfl
 | cons c r ih =>
  unfold sp
  split
  ·rename_i h; simp [h, ih]
  ·rename_i h; rw [ih, List.count_cons_of_ne (by simpa using h)]
theorem sp_ne (cur : List UInt8) (l : List UInt8) : sp cur l ≠ [] := by
 intro h
 have := sp_length cur l
 rw [h] at this; simp at this
theorem pieces_length (s : ByteArray) : (pieces s).length = (L s).count 47 + 1 := by simp [pieces, sp_length]
theorem pieces_le (s : ByteArray) : (pieces s).length ≤ s.size + 1 := by
 rw [pieces_length, ← L_length s]
 have := List.count_le_length (a := (47 : UInt8)) (l := L s)
 omega
theorem rpieces_loop (s : ByteArray) (hs : s.size ≤ 1099511627776) : ∀ (r cur : List UInt8) (i f : Nat) (acc : List ByteArray), (L s).drop i = r → f ≤ i → i ≤ s.size → ((L s).drop f).take (i - f) = cur → acc.length ≤ i →
  Ev (fun k => treadleref04_Pieces.l0 k s acc f i) (acc ++ (sp cur r).map mkB)
 | [], cur, i, f, acc, h, hf, hi, hc, ha => by
  have h0 := drop_none h
  rw [L_length] at h0
  have hie : i = s.size := by omega
  subst hie
  refine Ev.step (fun k => treadleref04_Pieces.l0.eq_2 _ _ _ _ k) ?_
  refine Ev.ite_pos (by omega) (Ev.ite_pos rfl (Ev.ite_pos (by omega) (Ev.ite_pos (by omega) (Ev.ite_pos (by omega) ?_))))
  rw [wrap_succ (by omega)]
  refine Ev.step (fun k => treadleref04_Pieces.l0.eq_2 _ _ _ _ k) ?_
  refine Ev.ite_neg (by omega) (Ev.some_ ?_)
  have e : s.extract (f : Int).toNat ((s.size : Nat) : Int).toNat = mkB cur := by
   apply L_inj
   rw [L_extract, L_mkB, ← hc]; simp
  rw [e]; rfl
 | c :: r, cur, i, f, acc, h, hf, hi, hc, ha => by
  obtain ⟨hb, hlt⟩ := bt_drop h
  refine Ev.step (fun k => treadleref04_Pieces.l0.eq_2 _ _ _ _ k) ?_
  refine Ev.ite_pos (by omega) (Ev.ite_neg (by omega) (Ev.ite_pos (by omega) (Ev.ite_pos (by omega) ?_)))
  rw [hb, wrap_succ (by omega)]
  have hd := (drop_some h).2.2
  by_cases h47 : c = 47
  ·subst h47
   refine Ev.ite_pos (by decide) (Ev.ite_pos (by omega) (Ev.ite_pos (by omega) (Ev.ite_pos (by omega) ?_)))
   have e : s.extract (f : Int).toNat (i : Int).toNat = mkB cur := by
    apply L_inj
    rw [L_extract, L_mkB, ← hc]; simp
   rw [e]
   refine (rpieces_loop s hs r [] (i + 1) (i + 1) (acc ++ [mkB cur]) hd (Nat.le_refl _) (by omega) (by simp) (by simp; omega)).eq ?_
   simp [sp]
  ·refine Ev.ite_neg (fun e => h47 (by apply UInt8.toNat_inj.mp; simp; omega)) ?_
   refine (rpieces_loop s hs r (cur ++ [c]) (i + 1) f acc hd (by omega) (by omega) ?_ (by omega)).eq ?_
   ·rw [← hc, show i + 1 - f = (i - f) + 1 by omega]
    refine take_drop_succ (r := r) ?_
    rw [List.drop_drop, show f + (i - f) = i by omega]; exact h
   ·rw [sp, if_neg h47]
theorem rpieces (s : ByteArray) (hs : s.size ≤ 1099511627776) : Ev (fun k => treadleref04_Pieces.f k s) (pieces s) := by
 unfold treadleref04_Pieces.f
 exact rpieces_loop s hs (L s) [] 0 0 [] rfl (Nat.le_refl _) (by omega) (by simp) (by simp)
abbrev slash : ByteArray := ⟨#[47]⟩
theorem index_slash (s : ByteArray) : strings_Index.f s slash = some (Lib.indexByte (L s) 47) := rfl
theorem count_slash (s : ByteArray) : strings_Count.f s slash = some (((L s).count 47 : Nat) : Int) := rfl
theorem indexByte_spec (l : List UInt8) (c : UInt8) : (Lib.indexByte l c = -1 ∧ c ∉ l) ∨ ∃ m : Nat, Lib.indexByte l c = m ∧ m < l.length ∧ c ∉ l.take m ∧ l.drop m = c :: l.drop (m + 1) := by
 induction l with
 | nil => exact .inl ⟨rfl, by simp⟩
 | cons b l ih =>
  unfold Lib.indexByte
  by_cases hb : b = c
  ·subst hb
   exact .inr ⟨0, by simp, by simp, by simp, by simp⟩
  ·have hb' : (b == c) = false := by simpa using hb
   simp only [hb', Bool.false_eq_true, if_false]
   rcases ih with ⟨h1, h2⟩ | ⟨m, h1, h2, h3, h4⟩
   ·left; rw [h1]; exact ⟨by simp, by simp [h2, Ne.symm hb]⟩
   ·right
    refine ⟨m + 1, ?_, by simp; omega, ?_, by simpa using h4⟩
    ·rw [h1, if_neg (by simp <;> omega)]; rfl
    ·simp [h3, Ne.symm hb]
theorem sp_none (cur l : List UInt8) (h : (47 : UInt8) ∉ l) : sp cur l = [cur ++ l] := by
 induction l generalizing cur with
 | nil => simp [sp]
 | cons c r ih =>
  simp at h
  rw [sp, if_neg (Ne.symm h.1), ih _ h.2]; simp
theorem sp_at (cur l : List UInt8) (m : Nat) (h : (47 : UInt8) ∉ l.take m) (hd : l.drop m = 47 :: l.drop (m + 1)) : sp cur l = (cur ++ l.take m) :: sp [] (l.drop (m + 1)) := by
 induction m generalizing cur l with
 | zero =>
  cases l with
  | nil => simp at hd
  | cons c r => simp at hd; subst hd; simp [sp]
 | succ m ih =>
  cases l with
  | nil => simp at hd
  | cons c r =>
   simp at h hd
   rw [sp, if_neg (Ne.symm h.1), ih _ _ h.2 hd]; simp
theorem set_rep (done : List ByteArray) (n : Nat) (x : ByteArray) (h : 0 < n) : (done ++ List.replicate n (⟨#[]⟩ : ByteArray)).set done.length x = (done ++ [x]) ++ List.replicate (n - 1) (⟨#[]⟩ : ByteArray) := by
 cases n with
 | zero => omega
 | succ n => simp [List.replicate_succ]
theorem gens_loop (n : Nat) : ∀ (s : ByteArray) (done : List ByteArray) (hs : s.size + done.length ≤ 1099511627776) (hn : (L s).count 47 = n),
  Ev (fun k => strings_genSplit.l0 k s slash 0 ((done.length + n : Nat) : Int) (done ++ List.replicate (n + 1) (⟨#[]⟩ : ByteArray)) ((done.length : Nat) : Int)) (done ++ (sp [] (L s)).map mkB) := by
 induction n with
 | zero =>
  intro s done hs hn
  refine Ev.step (fun k => strings_genSplit.l0.eq_2 _ _ _ _ _ _ k) ?_
  refine Ev.ite_neg (by omega) (Ev.ite_pos (by omega) (Ev.ite_pos (by simp; omega) ?_))
  rw [wrap_succ (by omega)]
  refine Ev.ite_pos (by omega) (Ev.ite_pos (by simp) (Ev.some_ ?_))
  have e1 : ((done.length : Nat) : Int).toNat = done.length := by omega
  have e2 : ((done.length + 1 : Nat) : Int).toNat = done.length + 1 := by omega
  rw [e1, e2, set_rep _ _ _ (by omega)]
  have hm : (47 : UInt8) ∉ L s := List.count_eq_zero.mp hn
  rw [sp_none _ _ hm, List.take_of_length_le (by simp)]
  simp [mkB_L]
 | succ n ih =>
  intro s done hs hn
  refine Ev.step (fun k => strings_genSplit.l0.eq_2 _ _ _ _ _ _ k) ?_
  refine Ev.ite_pos (by omega) ?_
  refine Ev.bind_now (index_slash s) ?_
  have hsL := L_length s
  rcases indexByte_spec (L s) 47 with ⟨h1, h2⟩ | ⟨m, h1, h2, h3, h4⟩
  ·rw [List.count_eq_zero.mpr h2] at hn; omega
  ·rw [h1]
   refine Ev.ite_neg (by omega) ?_
   have w0 : wrap64 ((m : Int) + 0) = (m : Int) := by rw [Int.add_zero]; exact wrap_id (by omega) (by omega)
   have w1 : wrap64 ((m : Int) + (slash.size : Int)) = ((m + 1 : Nat) : Int) := wrap_succ (by omega)
   rw [w0, w1, wrap_succ (by omega)]
   refine Ev.ite_pos (by omega) (Ev.ite_pos (by omega) (Ev.ite_pos (by omega) (Ev.ite_pos (by simp; omega) (Ev.ite_pos (by omega) (Ev.ite_pos (by omega) ?_)))))
   have e1 : ((done.length : Nat) : Int).toNat = done.length := by omega
   have e2 : ((m + 1 : Nat) : Int).toNat = m + 1 := by omega
   have e3 : ((m : Nat) : Int).toNat = m := by omega
   rw [e1, e2, e3, set_rep _ _ _ (by omega)]
   have hx : L (s.extract (m + 1) s.size) = (L s).drop (m + 1) := by
    rw [L_extract]; apply List.take_of_length_le; simp <;> omega
   have hc : (L (s.extract (m + 1) s.size)).count 47 = n := by
    rw [hx]
    have := congrArg (List.count 47) (List.take_append_drop m (L s)).symm
    rw [List.count_append, List.count_eq_zero.mpr h3, h4, List.count_cons_self] at this
    omega
   have hz : (s.extract (m + 1) s.size).size + (m + 1) = s.size := by
    rw [size_eq_L (s.extract (m + 1) s.size), hx]; simp; omega
   have := ih (s.extract (m + 1) s.size) (done ++ [s.extract 0 m]) (by simp; omega) hc
   have e4 : ((done ++ [s.extract 0 m]).length + n : Nat) = done.length + (n + 1) := by simp; omega
   have e5 : (done ++ [s.extract 0 m]).length = done.length + 1 := by simp
   rw [e4, e5, show n + 1 = n + 1 + 1 - 1 by omega] at this
   refine this.eq ?_
   rw [hx, sp_at [] (L s) m h3 h4]
   have e6 : s.extract 0 m = mkB ((L s).take m) := by
    apply L_inj; rw [L_extract, L_mkB]; simp
   rw [e6]; simp
theorem psplit (s : ByteArray) (hs : s.size ≤ 549755813888) : Ev (fun k => strings_Split.f k s slash) (pieces s) := by
 unfold strings_Split.f
 refine Ev.bind (a := pieces s) ?_ (Ev.some_ rfl)
 unfold strings_genSplit.f
 refine Ev.ite_neg (by decide) (Ev.ite_neg (by rw [toList_L]; decide) (Ev.ite_pos (by decide) (Ev.bind_now (count_slash s) ?_)))
 have hc := List.count_le_length (a := (47 : UInt8)) (l := L s)
 have hl := L_length s
 rw [wrap_succ (by omega)]
 refine Ev.step (fun k => strings_genSplit.j0.eq_2 _ _ _ _ k) ?_
 have hm : mn (((L s).count 47 + 1 : Nat) : Int) (wrap64 ((s.size : Int) + 1)) = (((L s).count 47 + 1 : Nat) : Int) := by
  rw [wrap_succ (by omega)]; unfold mn; split <;> omega
 rw [hm]
 refine Ev.ite_pos (by omega) (Ev.ite_pos (by omega) ?_)
 have e1 : (((L s).count 47 + 1 : Nat) : Int).toNat = (L s).count 47 + 1 := by omega
 have e2 : wrap64 ((((L s).count 47 + 1 : Nat) : Int) - 1) = (((L s).count 47 : Nat) : Int) := by unfold wrap64; omega
 rw [e1, e2]
 have := gens_loop ((L s).count 47) s [] (by simp; omega) rfl
 simpa [pieces] using this
def namesOf (s : ByteArray) : Option (List ByteArray) :=
 if L s = [] then some [] else if (pieces s).length ≤ 32 ∧ (pieces s).all nm = true then some (pieces s) else none
theorem pnames_loop (l0 : List ByteArray) (l : List ByteArray) (hl : l.length ≤ 1099511627776) : ∀ (r : List ByteArray) (i : Nat), l.drop i = r →
  Ev (fun k => path_Names.l0 k l0 l (l.length : Int) i) (if r.all nm = true then (l0, 0) else ([], 45))
 | [], i, h => by
  have := drop_none h
  refine Ev.step (fun k => path_Names.l0.eq_2 _ _ _ _ k) ?_
  exact Ev.ite_neg (by omega) (Ev.some_ (by simp))
 | x :: r, i, h => by
  obtain ⟨h1, _, h3⟩ := drop_some h
  refine Ev.step (fun k => path_Names.l0.eq_2 _ _ _ _ k) ?_
  refine Ev.ite_pos (by omega) (Ev.ite_pos (by omega) (Ev.ite_pos (by omega) ?_))
  rw [rdOf_drop h, wrap_succ (by omega)]
  refine Ev.bind (pname x) ?_
  by_cases hx : nm x = true
  ·refine Ev.ite_pos (by simp [hx]) ((pnames_loop l0 l hl r (i + 1) h3).eq ?_)
   simp [hx]
  ·refine Ev.ite_neg (by simp [hx]) (Ev.some_ ?_)
   simp [hx]
theorem rnames_loop (l : List ByteArray) (hl : l.length ≤ 1099511627776) : ∀ (r : List ByteArray) (i : Nat), l.drop i = r →
  Ev (fun k => treadleref04_Names.l0 k l i) (if r.all nm = true ∧ l.length ≤ 32 then (l, true) else ([], false))
 | [], i, h => by
  have := drop_none h
  refine Ev.step (fun k => treadleref04_Names.l0.eq_2 _ _ k) ?_
  refine Ev.ite_neg (by omega) ?_
  by_cases hh : (l.length : Int) > 32
  ·refine Ev.ite_pos hh (Ev.some_ ?_); rw [if_neg (by omega)]
  ·refine Ev.ite_neg hh (Ev.some_ ?_); rw [if_pos ⟨by simp, by omega⟩]
 | x :: r, i, h => by
  obtain ⟨h1, _, h3⟩ := drop_some h
  refine Ev.step (fun k => treadleref04_Names.l0.eq_2 _ _ k) ?_
  refine Ev.ite_pos (by omega) (Ev.ite_pos (by omega) ?_)
  rw [rdOf_drop h, wrap_succ (by omega)]
  refine Ev.bind (rname x) ?_
  by_cases hx : nm x = true
  ·refine Ev.ite_pos hx ((rnames_loop l hl r (i + 1) h3).eq ?_)
   simp [hx]
  ·refine Ev.ite_neg hx (Ev.some_ ?_)
   simp [hx]
theorem toList_nil (s : ByteArray) : s.toList = ([] : List UInt8) ↔ L s = [] := by rw [toList_L]
theorem pnames (s : ByteArray) (hs : s.size ≤ 549755813888) : Ev (fun k => path_Names.f k s) (match namesOf s with | some l => (l, 0) | none => ([], 45)) := by
 unfold path_Names.f namesOf
 by_cases h0 : L s = []
 ·refine Ev.ite_pos ((toList_nil s).mpr h0) (Ev.some_ ?_); simp [h0]
 ·refine Ev.ite_neg (fun h => h0 ((toList_nil s).mp h)) ?_
  refine Ev.bind (psplit s hs) ?_
  have hl := pieces_le s
  by_cases h1 : ((pieces s).length : Int) > 32
  ·refine Ev.ite_pos h1 (Ev.some_ ?_)
   rw [if_neg h0, if_neg (by omega)]
  ·refine Ev.ite_neg h1 ?_
   refine (pnames_loop (pieces s) (pieces s) (by omega) (pieces s) 0 rfl).eq ?_
   rw [if_neg h0]
   by_cases h2 : (pieces s).all nm = true
   ·rw [if_pos h2, if_pos ⟨by omega, h2⟩]
   ·rw [if_neg h2, if_neg (fun h => h2 h.2)]
theorem rnames (s : ByteArray) (hs : s.size ≤ 549755813888) : Ev (fun k => treadleref04_Names.f k s) (match namesOf s with | some l => (l, true) | none => ([], false)) := by
 unfold treadleref04_Names.f namesOf
 by_cases h0 : L s = []
 ·refine Ev.ite_pos ((toList_nil s).mpr h0) (Ev.some_ ?_); simp [h0]
 ·refine Ev.ite_neg (fun h => h0 ((toList_nil s).mp h)) ?_
  refine Ev.bind (rpieces s (by omega)) ?_
  have hl := pieces_le s
  refine (rnames_loop (pieces s) (by omega) (pieces s) 0 rfl).eq ?_
  rw [if_neg h0]
  by_cases h2 : (pieces s).all nm = true ∧ (pieces s).length ≤ 32
  ·rw [if_pos h2, if_pos ⟨h2.2, h2.1⟩]
  ·rw [if_neg h2, if_neg (fun h => h2 ⟨h.2, h.1⟩)]
def txtTail (r : List ByteArray) : List UInt8 := (r.map (fun x => 47 :: L x)).flatten
def txtL : List ByteArray → List UInt8
 | [] => []
 | x :: r => L x ++ txtTail r
def txt (l : List ByteArray) : ByteArray := mkB (txtL l)
def tot (l : List ByteArray) : Nat := (l.map (fun x => x.size + 1)).sum
theorem tot_cons (x : ByteArray) (r : List ByteArray) : tot (x :: r) = x.size + 1 + tot r := by simp [tot]
theorem txtTail_length (r : List ByteArray) : (txtTail r).length = tot r := by
 induction r with
 | nil => rfl
 | cons x r ih =>
  have e : txtTail (x :: r) = (47 :: L x) ++ txtTail r := by simp [txtTail]
  rw [e, List.length_append, ih, tot_cons, List.length_cons, L_length]
theorem txtL_length (l : List ByteArray) : (txtL l).length ≤ tot l := by
 cases l with
 | nil => simp [txtL]
 | cons x r => simp only [txtL, List.length_append, txtTail_length, tot_cons, L_length]; omega
theorem length_le_tot (l : List ByteArray) : l.length ≤ tot l := by
 induction l with
 | nil => simp
 | cons x r ih => rw [tot_cons, List.length_cons]; omega
theorem join_eq (l : List ByteArray) : Lib.join (l.map (·.data.toList)) slash.data.toList = txtL l := by
 cases l with
 | nil => rfl
 | cons x r =>
  rw [List.map_cons, Lib.join_cons]
  simp only [txtL, txtTail, Lib.joinTail, List.map_map]
  congr 1
theorem pjoins (l : List ByteArray) (h : tot l ≤ 140737488355328) : strings_Join.f l slash = some (txt l) := by
 unfold strings_Join.f
 rw [join_eq, if_pos ⟨Nat.le_trans (length_le_tot l) h, Nat.le_trans (txtL_length l) h⟩]
 rfl
theorem tot_nm (l : List ByteArray) (h : l.all nm = true) : tot l ≤ 65 * l.length := by
 induction l with
 | nil => simp [tot]
 | cons x r ih =>
  simp only [List.all_cons, Bool.and_eq_true] at h
  have := ih h.2
  have hx : x.size ≤ 64 := by
   have := h.1; unfold nm at this; simp at this; omega
  rw [tot_cons, List.length_cons]; omega
theorem rtext_loop (l : List ByteArray) (hl : l.length ≤ 1099511627776) : ∀ (r : List ByteArray) (i : Nat) (t : ByteArray), l.drop i = r → 0 < i → t.size + tot r ≤ 140737488355328 →
  Ev (fun k => treadleref04_text.l0 k l t i) (mkB (L t ++ txtTail r))
 | [], i, t, h, hi, hb => by
  have := drop_none h
  refine Ev.step (fun k => treadleref04_text.l0.eq_2 _ _ _ k) ?_
  refine Ev.ite_neg (by omega) (Ev.some_ ?_)
  simp [txtTail]
 | x :: r, i, t, h, hi, hb => by
  obtain ⟨h1, _, h3⟩ := drop_some h
  rw [tot_cons] at hb
  have hz : (t ++ slash).size = t.size + 1 := by rw [size_eq_L, L_append, List.length_append, L_length]; rfl
  refine Ev.step (fun k => treadleref04_text.l0.eq_2 _ _ _ k) ?_
  refine Ev.ite_pos (by omega) (Ev.ite_pos (by omega) (Ev.ite_pos (by omega) (Ev.ite_pos (by omega) ?_)))
  rw [rdOf_drop h, wrap_succ (by omega)]
  refine Ev.ite_pos (by rw [hz]; omega) ?_
  have hz2 : ((t ++ slash) ++ x).size = t.size + 1 + x.size := by rw [size_eq_L, L_append, List.length_append, L_length, L_length, hz]
  refine (rtext_loop l hl r (i + 1) _ h3 (by omega) (by rw [hz2]; omega)).eq ?_
  congr 1
  have e : txtTail (x :: r) = (47 :: L x) ++ txtTail r := by simp [txtTail]
  rw [e, L_append, L_append]; simp [L]
theorem rtext (l : List ByteArray) (h : tot l ≤ 1099511627776) : Ev (fun k => treadleref04_text.f k l) (txt l) := by
 unfold treadleref04_text.f
 cases l with
 | nil =>
  refine Ev.step (fun k => treadleref04_text.l0.eq_2 _ _ _ k) ?_
  exact Ev.ite_neg (by simp) (Ev.some_ rfl)
 | cons x r =>
  have hl := length_le_tot (x :: r)
  have ht := tot_cons x r
  refine Ev.step (fun k => treadleref04_text.l0.eq_2 _ _ _ k) ?_
  refine Ev.ite_pos (by simp <;> omega) (Ev.ite_neg (by omega) (Ev.ite_pos (by omega) ?_))
  have e0 : rdOf ByteArray.empty (x :: r) 0 = x := rfl
  have hz : (((⟨#[]⟩ : ByteArray)) ++ x).size = x.size := by rw [size_eq_L, L_append, List.length_append, L_length]; exact Nat.zero_add _
  rw [e0]
  refine Ev.ite_pos (by show 0 + x.size ≤ _; omega) ?_
  have := rtext_loop (x :: r) (by omega) r 1 ((⟨#[]⟩ : ByteArray) ++ x) rfl (by omega) (by rw [hz]; omega)
  have w : wrap64 (0 + 1) = ((1 : Nat) : Int) := wrap_succ (i := 0) (by omega)
  rw [w]
  refine this.eq ?_
  unfold txt txtL
  rw [L_append]; simp [L]
def ofN (l : List ByteArray) : ByteArray × Int := if l.all nm = true then if l.length > 32 then (⟨#[]⟩, 44) else (txt l, 0) else (⟨#[]⟩, 42)
theorem pof_loop (l : List ByteArray) (hl : l.length ≤ 8796093022207) : ∀ (r : List ByteArray) (i : Nat), l.drop i = r → (l.take i).all nm = true →
  Ev (fun k => path_Of.l0 k l l (l.length : Int) i) (ofN l)
 | [], i, h, ha => by
  have hi := drop_none h
  rw [List.take_of_length_le hi] at ha
  refine Ev.step (fun k => path_Of.l0.eq_2 _ _ _ _ k) ?_
  refine Ev.ite_neg (by omega) ?_
  unfold ofN
  rw [if_pos ha]
  by_cases hh : (l.length : Int) > 32
  ·refine Ev.ite_pos hh (Ev.some_ ?_); rw [if_pos (by omega)]
  ·refine Ev.ite_neg hh ?_
   have := tot_nm l ha
   refine Ev.bind_now (pjoins l (by omega)) (Ev.some_ ?_); rw [if_neg (by omega)]
 | x :: r, i, h, ha => by
  obtain ⟨h1, _, h3⟩ := drop_some h
  refine Ev.step (fun k => path_Of.l0.eq_2 _ _ _ _ k) ?_
  refine Ev.ite_pos (by omega) (Ev.ite_pos (by omega) (Ev.ite_pos (by omega) ?_))
  rw [rdOf_drop h, wrap_succ (by omega)]
  refine Ev.bind (pname x) ?_
  by_cases hx : nm x = true
  ·refine Ev.ite_pos (by simp [hx]) (pof_loop l hl r (i + 1) h3 ?_)
   rw [take_drop_succ h]; simp [ha, hx]
  ·refine Ev.ite_neg (by simp [hx]) (Ev.some_ ?_)
   have : ¬ (l.all nm = true) := by
    rw [← List.take_append_drop i l, h]; simp [hx]
   unfold ofN; rw [if_neg this]
theorem pof (l : List ByteArray) (hl : l.length ≤ 8796093022207) : Ev (fun k => path_Of.f k l) (ofN l) := pof_loop l hl l 0 rfl (by simp)
def goneL : List ByteArray → List ByteArray → List ByteArray × Int
 | n, [] => (n, 0)
 | n, p :: r => if L p = [] ∨ L p = [46] then goneL n r else if L p = [46, 46] then if n = [] then ([], 43) else goneL n.dropLast r else if nm p = true then goneL (n ++ [p]) r else ([], 42)
def gone (n : List ByteArray) (s : ByteArray) : List ByteArray × Int :=
 if s.size > 4096 then ([], 40) else if (L s).head? = some 47 then ([], 41) else goneL n (pieces s)
theorem take_last (n : List ByteArray) (h : n.length ≠ 0) (hb : n.length ≤ 17592186044416) : n.take ((wrap64 ((n.length : Int) - 1)) : Int).toNat = n.dropLast := by
 rw [List.dropLast_eq_take, wrap_id (by omega) (by omega)]
 congr 1; omega
theorem pgone_loop (l : List ByteArray) (hl : l.length ≤ 1099511627776) : ∀ (r : List ByteArray) (i : Nat) (n : List ByteArray), l.drop i = r → n.length + r.length ≤ 8796093022207 →
  Ev (fun k => path_gone.l0 k n l (l.length : Int) i) (goneL n r)
 | [], i, n, h, hb => by
  have hi := drop_none h
  refine Ev.step (fun k => path_gone.l0.eq_2 _ _ _ _ k) ?_
  exact Ev.ite_neg (by omega) (Ev.some_ rfl)
 | x :: r, i, n, h, hb => by
  obtain ⟨h1, _, h3⟩ := drop_some h
  rw [List.length_cons] at hb
  refine Ev.step (fun k => path_gone.l0.eq_2 _ _ _ _ k) ?_
  refine Ev.ite_pos (by omega) (Ev.ite_pos (by omega) (Ev.ite_pos (by omega) ?_))
  rw [rdOf_drop h]
  have jt : ∀ b : Bool, b = true → (L x = [] ∨ L x = [46]) → Ev (fun k => path_gone.j1 k n x l (l.length : Int) i x b) (goneL n (x :: r)) := fun b hb1 hx => by
   refine Ev.step (fun k => path_gone.j1.eq_2 _ _ _ _ _ _ _ k) ?_
   refine Ev.ite_pos hb1 ?_
   rw [wrap_succ (by omega)]
   refine (pgone_loop l hl r (i + 1) n h3 (by omega)).eq ?_
   rw [goneL, if_pos hx]
  by_cases e1 : x.toList = ([] : List UInt8)
  ·refine Ev.ite_pos e1 (jt _ (by simp [e1]) (.inl ((toList_nil x).mp e1)))
  refine Ev.ite_neg e1 ?_
  by_cases e2 : x.toList = ([46] : List UInt8)
  ·exact jt _ (by simp [e2]) (.inr (by rw [← toList_L]; exact e2))
  refine Ev.step (fun k => path_gone.j1.eq_2 _ _ _ _ _ _ _ k) ?_
  refine Ev.ite_neg (by simp [e2]) ?_
  have ne : ¬ (L x = [] ∨ L x = [46]) := by rw [← toList_L]; rintro (h | h) <;> contradiction
  rw [goneL, if_neg ne]
  rw [wrap_succ (i := i) (by omega)]
  by_cases e3 : x.toList = ([46, 46] : List UInt8)
  ·rw [if_pos (by rw [← toList_L]; exact e3)]
   refine Ev.ite_pos e3 ?_
   by_cases hn : n = []
   ·subst hn
    exact Ev.ite_pos rfl (Ev.some_ rfl)
   ·have hn' : n.length ≠ 0 := by simpa using hn
    rw [if_neg hn]
    refine Ev.ite_neg (by omega) ?_
    have w : wrap64 ((n.length : Int) - 1) = (n.length : Int) - 1 := wrap_id (by omega) (by omega)
    refine Ev.ite_pos (by rw [w]; omega) (Ev.ite_pos (by rw [w]; omega) ?_)
    rw [take_last n hn' (by omega)]
    exact pgone_loop l hl r (i + 1) n.dropLast h3 (by rw [List.length_dropLast]; omega)
  ·rw [if_neg (by rw [← toList_L]; exact e3)]
   refine Ev.ite_neg e3 (Ev.bind (pname x) ?_)
   by_cases hx : nm x = true
   ·refine Ev.ite_pos (by simp [hx]) (Ev.ite_pos (by omega) ?_)
    refine (pgone_loop l hl r (i + 1) (n ++ [x]) h3 (by simp; omega)).eq ?_
    rw [if_pos hx]
   ·refine Ev.ite_neg (by simp [hx]) (Ev.some_ ?_)
    rw [if_neg hx]
theorem rgone_loop (l : List ByteArray) (hl : l.length ≤ 1099511627776) : ∀ (r : List ByteArray) (i : Nat) (n : List ByteArray), l.drop i = r → n.length + r.length ≤ 8796093022207 →
  Ev (fun k => treadleref04_gone.l0 k n l i) (goneL n r)
 | [], i, n, h, hb => by
  have hi := drop_none h
  refine Ev.step (fun k => treadleref04_gone.l0.eq_2 _ _ _ k) ?_
  exact Ev.ite_neg (by omega) (Ev.some_ rfl)
 | x :: r, i, n, h, hb => by
  obtain ⟨h1, _, h3⟩ := drop_some h
  rw [List.length_cons] at hb
  refine Ev.step (fun k => treadleref04_gone.l0.eq_2 _ _ _ k) ?_
  refine Ev.ite_pos (by omega) (Ev.ite_pos (by omega) ?_)
  rw [rdOf_drop h]
  have jt : ∀ b : Bool, b = true → (L x = [] ∨ L x = [46]) → Ev (fun k => treadleref04_gone.j2 k n l i b) (goneL n (x :: r)) := fun b hb1 hx => by
   refine Ev.step (fun k => treadleref04_gone.j2.eq_2 _ _ _ _ k) ?_
   refine Ev.ite_pos hb1 ?_
   rw [wrap_succ (by omega)]
   refine (rgone_loop l hl r (i + 1) n h3 (by omega)).eq ?_
   rw [goneL, if_pos hx]
  by_cases e1 : x.toList = ([] : List UInt8)
  ·refine Ev.ite_pos e1 (jt _ rfl (.inl ((toList_nil x).mp e1)))
  refine Ev.ite_neg e1 ?_
  by_cases e2 : x.toList = ([46] : List UInt8)
  ·exact jt _ (by simp [e2]) (.inr (by rw [← toList_L]; exact e2))
  refine Ev.step (fun k => treadleref04_gone.j2.eq_2 _ _ _ _ k) ?_
  refine Ev.ite_neg (by simp [e2]) ?_
  have ne : ¬ (L x = [] ∨ L x = [46]) := by rw [← toList_L]; rintro (h | h) <;> contradiction
  rw [goneL, if_neg ne]
  rw [wrap_succ (i := i) (by omega), rdOf_drop h]
  refine Ev.ite_pos (by omega) (Ev.ite_pos (by omega) ?_)
  by_cases e3 : x.toList = ([46, 46] : List UInt8)
  ·rw [if_pos (by rw [← toList_L]; exact e3)]
   refine Ev.ite_pos e3 ?_
   by_cases hn : n = []
   ·subst hn
    exact Ev.ite_pos rfl (Ev.some_ rfl)
   ·have hn' : n.length ≠ 0 := by simpa using hn
    rw [if_neg hn]
    refine Ev.ite_neg (by omega) ?_
    have w : wrap64 ((n.length : Int) - 1) = (n.length : Int) - 1 := wrap_id (by omega) (by omega)
    refine Ev.ite_pos (by rw [w]; omega) (Ev.ite_pos (by rw [w]; omega) ?_)
    rw [take_last n hn' (by omega)]
    exact rgone_loop l hl r (i + 1) n.dropLast h3 (by rw [List.length_dropLast]; omega)
  ·rw [if_neg (by rw [← toList_L]; exact e3)]
   refine Ev.ite_neg e3 (Ev.bind (rname x) ?_)
   by_cases hx : nm x = true
   ·refine Ev.ite_pos hx (Ev.ite_pos (by omega) ?_)
    refine (rgone_loop l hl r (i + 1) (n ++ [x]) h3 (by simp; omega)).eq ?_
    rw [if_pos hx]
   ·refine Ev.ite_neg hx (Ev.some_ ?_)
    rw [if_neg hx]
theorem hasPrefix_slash (s : ByteArray) : strings_HasPrefix.f s slash = some (decide ((L s).head? = some 47)) := by
 unfold strings_HasPrefix.f stringslite_HasPrefix.f
 have h1 : (slash.size : Int) = 1 := rfl
 rw [h1]
 have hl := L_length s
 by_cases h : (s.size : Int) ≥ 1
 ·rw [if_pos h, if_pos (by omega), if_pos (by omega)]
  simp only [Option.bind_some]
  rw [toList_L, toList_L, L_extract]
  congr 1
  obtain ⟨⟨l⟩⟩ := s
  cases l with
  | nil => simp at hl h; have : (⟨⟨[]⟩⟩ : ByteArray).size = 0 := rfl; omega
  | cons c r => simp [L, Bool.beq_eq_decide_eq]
 ·rw [if_neg h]
  simp only [Option.bind_some]
  congr 1
  obtain ⟨⟨l⟩⟩ := s
  cases l with
  | nil => simp [L]
  | cons c r => have : (⟨⟨c :: r⟩⟩ : ByteArray).size = r.length + 1 := rfl; omega
theorem pgone (n : List ByteArray) (s : ByteArray) (hn : n.length ≤ 8796093000000) : Ev (fun k => path_gone.f k n s) (gone n s) := by
 unfold path_gone.f gone
 by_cases h1 : (s.size : Int) > 4096
 ·refine Ev.ite_pos h1 (Ev.some_ ?_); rw [if_pos (by omega)]
 ·refine Ev.ite_neg h1 (Ev.bind_now (hasPrefix_slash s) ?_)
  rw [if_neg (by omega)]
  by_cases h2 : (L s).head? = some 47
  ·refine Ev.ite_pos (by simp [h2]) (Ev.some_ ?_); rw [if_pos h2]
  ·refine Ev.ite_neg (by simp [h2]) (Ev.bind (psplit s (by omega)) ?_)
   rw [if_neg h2]
   have := pieces_le s
   exact pgone_loop (pieces s) (by omega) (pieces s) 0 n rfl (by omega)
theorem rgone (n : List ByteArray) (s : ByteArray) (hn : n.length ≤ 8796093000000) : Ev (fun k => treadleref04_gone.f k n s) (gone n s) := by
 unfold treadleref04_gone.f gone
 have hl := L_length s
 have jt : ∀ b : Bool, ¬ s.size > 4096 → b = decide ((L s).head? = some 47) → Ev (fun k => treadleref04_gone.j0 k n s b) (if (L s).head? = some 47 then ([], 41) else goneL n (pieces s)) := fun b hs hb => by
  refine Ev.step (fun k => treadleref04_gone.j0.eq_2 _ _ _ k) ?_
  by_cases h2 : (L s).head? = some 47
  ·refine Ev.ite_pos (by simp [hb, h2]) (Ev.some_ ?_); rw [if_pos h2]
  ·refine Ev.ite_neg (by simp [hb, h2]) (Ev.ite_pos (by simp; omega) (Ev.bind (rpieces s (by omega)) ?_))
   rw [if_neg h2]
   have := pieces_le s
   exact rgone_loop (pieces s) (by omega) (pieces s) 0 n rfl (by omega)
 by_cases h1 : (s.size : Int) > 4096
 ·refine Ev.ite_pos h1 (Ev.some_ ?_); rw [if_pos (by omega)]
 ·refine Ev.ite_neg h1 ?_
  rw [if_neg (by omega)]
  by_cases h2 : (s.size : Int) > 0
  ·refine Ev.ite_pos h2 (Ev.ite_pos (by omega) (jt _ (by omega) ?_))
   obtain ⟨⟨l⟩⟩ := s
   cases l with
   | nil => have : (⟨⟨[]⟩⟩ : ByteArray).size = 0 := rfl; omega
   | cons c r =>
    have : bt (⟨⟨c :: r⟩⟩ : ByteArray) ((0 : Nat) : Int) = (c.toNat : Int) := (bt_drop (s := ⟨⟨c :: r⟩⟩) (i := 0) (c := c) (r := r) rfl).1
    have e0 : ((0 : Nat) : Int) = 0 := rfl
    rw [e0] at this
    rw [this]
    have e : (c.toNat : Int) = 47 ↔ c = 47 := by
     constructor
     ·intro h; apply UInt8.toNat_inj.mp; show c.toNat = 47; omega
     ·rintro rfl; rfl
    simp [L, e, Bool.beq_eq_decide_eq]
  ·refine Ev.ite_neg h2 (jt _ (by omega) ?_)
   obtain ⟨⟨l⟩⟩ := s
   cases l with
   | nil => simp [L]
   | cons c r => have : (⟨⟨c :: r⟩⟩ : ByteArray).size = r.length + 1 := rfl; omega
theorem goneL_length (n r : List ByteArray) : (goneL n r).1.length ≤ n.length + r.length := by
 induction r generalizing n with
 | nil => simp [goneL]
 | cons p r ih =>
  unfold goneL
  rw [List.length_cons]
  split
  ·have := ih n; omega
  ·split
   ·split
    ·simp
    ·have := ih n.dropLast; rw [List.length_dropLast] at this; omega
   ·split
    ·have := ih (n ++ [p]); simp at this; omega
    ·simp
theorem gone_length (n : List ByteArray) (s : ByteArray) : (gone n s).1.length ≤ n.length + 4097 := by
 unfold gone
 split
 ·simp
 ·split
  ·simp
  ·have h1 := goneL_length n (pieces s); have h2 := pieces_le s; omega
theorem goneL_nm (n r : List ByteArray) (h : n.all nm = true) : (goneL n r).1.all nm = true := by
 induction r generalizing n with
 | nil => simpa [goneL] using h
 | cons p r ih =>
  unfold goneL
  split
  ·exact ih n h
  ·split
   ·split
    ·rfl
    ·refine ih n.dropLast ?_
     rw [List.all_eq_true] at h ⊢
     exact fun x hx => h x (List.dropLast_subset _ hx)
   ·split
    ·rename_i hp; exact ih (n ++ [p]) (by simp only [List.all_append, h, Bool.true_and]; simp [hp])
    ·rfl
theorem gone_nm (n : List ByteArray) (s : ByteArray) (h : n.all nm = true) : (gone n s).1.all nm = true := by
 unfold gone
 split
 ·rfl
 ·split
  ·rfl
  ·exact goneL_nm _ _ h
def joinN : List ByteArray → List ByteArray → List ByteArray × Int
 | n, [] => (n, 0)
 | n, s :: r => if (gone n s).2 = 0 then joinN (gone n s).1 r else ([], (gone n s).2)
def joinP (base : ByteArray) (more : List ByteArray) : ByteArray × Int :=
 match namesOf base with
 | none => (⟨#[]⟩, 45)
 | some n => if (joinN n more).2 = 0 then if (joinN n more).1.length > 32 then (⟨#[]⟩, 44) else (txt (joinN n more).1, 0) else (⟨#[]⟩, (joinN n more).2)
theorem pjoin_bad (l : List ByteArray) (hl : l.length ≤ 1048576) (e : Int) (he : e ≠ 0) : ∀ (r : List ByteArray) (i : Nat) (n : List ByteArray), l.drop i = r →
  Ev (fun k => path_Join.l0 k n e l (l.length : Int) i) (⟨#[]⟩, e)
 | [], i, n, h => by
  have hi := drop_none h
  refine Ev.step (fun k => path_Join.l0.eq_2 _ _ _ _ _ k) ?_
  exact Ev.ite_neg (by omega) (Ev.ite_neg he (Ev.some_ rfl))
 | x :: r, i, n, h => by
  obtain ⟨h1, _, h3⟩ := drop_some h
  refine Ev.step (fun k => path_Join.l0.eq_2 _ _ _ _ _ k) ?_
  refine Ev.ite_pos (by omega) (Ev.ite_pos (by omega) (Ev.ite_pos (by omega) (Ev.ite_neg he ?_)))
  rw [wrap_succ (by omega)]
  exact pjoin_bad l hl e he r (i + 1) n h3
theorem hg2 {n m : List ByteArray} (i : Nat) (hb : n.length ≤ 32 + 4097 * i) (hg : m.length ≤ n.length + 4097) : m.length ≤ 32 + 4097 * (i + 1) := Nat.le_trans hg (Nat.le_trans (Nat.add_le_add_right hb 4097) (Nat.le_of_eq (by rw [Nat.mul_succ, Nat.add_assoc])))
theorem pjoin_loop (l : List ByteArray) (hl : l.length ≤ 1048576) : ∀ (r : List ByteArray) (i : Nat) (n : List ByteArray), l.drop i = r → n.all nm = true → n.length ≤ 32 + 4097 * i → i ≤ l.length →
  Ev (fun k => path_Join.l0 k n 0 l (l.length : Int) i) (if (joinN n r).2 = 0 then if (joinN n r).1.length > 32 then (⟨#[]⟩, 44) else (txt (joinN n r).1, 0) else (⟨#[]⟩, (joinN n r).2))
 | [], i, n, h, ha, hb, hi2 => by
  have hi := drop_none h
  refine Ev.step (fun k => path_Join.l0.eq_2 _ _ _ _ _ k) ?_
  refine Ev.ite_neg (by omega) (Ev.ite_pos rfl ?_)
  refine Ev.bind (pof n (by omega)) (Ev.some_ ?_)
  unfold ofN
  rw [if_pos ha]
  rfl
 | x :: r, i, n, h, ha, hb, hi2 => by
  obtain ⟨h1, _, h3⟩ := drop_some h
  refine Ev.step (fun k => path_Join.l0.eq_2 _ _ _ _ _ k) ?_
  refine Ev.ite_pos (by omega) (Ev.ite_pos (by omega) (Ev.ite_pos (by omega) (Ev.ite_pos rfl ?_)))
  rw [rdOf_drop h, wrap_succ (by omega)]
  refine Ev.bind (pgone n x (by omega)) ?_
  have hg := gone_length n x
  by_cases he : (gone n x).2 = 0
  ·rw [he, joinN, if_pos he]
   exact pjoin_loop l hl r (i + 1) _ h3 (gone_nm _ _ ha) (hg2 i hb hg) (by omega)
  ·rw [joinN, if_neg he]
   refine (pjoin_bad l hl _ he r (i + 1) _ h3).eq ?_
   rw [if_neg he]
theorem rjoin_loop (l : List ByteArray) (hl : l.length ≤ 1048576) : ∀ (r : List ByteArray) (i : Nat) (n : List ByteArray), l.drop i = r → n.all nm = true → n.length ≤ 32 + 4097 * i → i ≤ l.length →
  Ev (fun k => treadleref04_Join.l0 k l n i) (if (joinN n r).2 = 0 then if (joinN n r).1.length > 32 then (⟨#[]⟩, 44) else (txt (joinN n r).1, 0) else (⟨#[]⟩, (joinN n r).2))
 | [], i, n, h, ha, hb, hi2 => by
  have hi := drop_none h
  refine Ev.step (fun k => treadleref04_Join.l0.eq_2 _ _ _ k) ?_
  refine Ev.ite_neg (by omega) ?_
  rw [joinN, if_pos rfl]
  by_cases hh : (n.length : Int) > 32
  ·refine Ev.ite_pos hh (Ev.some_ ?_); rw [if_pos (by show n.length > 32; omega)]
  ·have := tot_nm n ha
   refine Ev.ite_neg hh (Ev.bind (rtext n (by omega)) (Ev.some_ ?_)); rw [if_neg (by show ¬ n.length > 32; omega)]
 | x :: r, i, n, h, ha, hb, hi2 => by
  obtain ⟨h1, _, h3⟩ := drop_some h
  refine Ev.step (fun k => treadleref04_Join.l0.eq_2 _ _ _ k) ?_
  refine Ev.ite_pos (by omega) (Ev.ite_pos (by omega) ?_)
  rw [rdOf_drop h, wrap_succ (by omega)]
  refine Ev.bind (rgone n x (by omega)) ?_
  have hg := gone_length n x
  by_cases he : (gone n x).2 = 0
  ·refine Ev.ite_pos he ?_
   rw [joinN, if_pos he]
   exact rjoin_loop l hl r (i + 1) _ h3 (gone_nm _ _ ha) (hg2 i hb hg) (by omega)
  ·refine Ev.ite_neg he (Ev.some_ ?_)
   rw [joinN, if_neg he, if_neg he]
theorem namesOf_nm {s : ByteArray} {n : List ByteArray} (h : namesOf s = some n) : n.all nm = true ∧ n.length ≤ 32 := by
 unfold namesOf at h
 split at h
 ·cases h; exact ⟨rfl, by simp⟩
 ·split at h
  ·rename_i h1; cases h; exact ⟨h1.2, h1.1⟩
  ·cases h
theorem pjoin (base : ByteArray) (more : List ByteArray) (hb : base.size ≤ 1048576) (hm : more.length ≤ 1048576) : Ev (fun k => path_Join.f k base more) (joinP base more) := by
 unfold path_Join.f joinP
 refine Ev.bind (pnames base (by omega)) ?_
 cases hn : namesOf base with
 | none => exact pjoin_bad more hm 45 (by decide) more 0 [] rfl
 | some n =>
  obtain ⟨h1, h2⟩ := namesOf_nm hn
  exact pjoin_loop more hm more 0 n rfl h1 (by omega) (by omega)
theorem rjoin (base : ByteArray) (more : List ByteArray) (hb : base.size ≤ 1048576) (hm : more.length ≤ 1048576) : Ev (fun k => treadleref04_Join.f k base more) (joinP base more) := by
 unfold treadleref04_Join.f joinP
 refine Ev.bind (rnames base (by omega)) ?_
 cases hn : namesOf base with
 | none => exact Ev.ite_neg (by simp) (Ev.some_ rfl)
 | some n =>
  obtain ⟨h1, h2⟩ := namesOf_nm hn
  refine Ev.ite_pos rfl ?_
  exact rjoin_loop more hm more 0 n rfl h1 (by omega) (by omega)
def cleanP (s : ByteArray) : ByteArray × Int := joinP ⟨#[]⟩ [s]
theorem pclean (s : ByteArray) : Ev (fun k => path_Clean.f k s) (cleanP s) := by
 unfold path_Clean.f
 exact Ev.bind (pjoin ⟨#[]⟩ [s] (by decide) (by simp)) (Ev.some_ rfl)
theorem rclean (s : ByteArray) : Ev (fun k => treadleref04_Clean.f k s) (cleanP s) := by
 unfold treadleref04_Clean.f
 exact Ev.bind (rjoin ⟨#[]⟩ [s] (by decide) (by simp)) (Ev.some_ rfl)
theorem same_loop (a b : List ByteArray) (hl : a.length = b.length) (ha : a.length ≤ 8796093022208) : ∀ (r q : List ByteArray) (i : Nat), a.drop i = r → b.drop i = q →
  Ev (fun k => treadleref04_Same.l0 k a b i) (decide (r = q))
 | [], q, i, h, h' => by
  have hi := drop_none h
  have : q = [] := by rw [← h']; exact List.drop_eq_nil_of_le (by omega)
  subst this
  refine Ev.step (fun k => treadleref04_Same.l0.eq_2 _ _ _ k) ?_
  exact Ev.ite_neg (by omega) (Ev.some_ rfl)
 | x :: r, q, i, h, h' => by
  obtain ⟨h1, _, h3⟩ := drop_some h
  cases q with
  | nil => have := drop_none h'; omega
  | cons y q =>
   obtain ⟨g1, _, g3⟩ := drop_some h'
   refine Ev.step (fun k => treadleref04_Same.l0.eq_2 _ _ _ k) ?_
   refine Ev.ite_pos (by omega) (Ev.ite_pos (by omega) (Ev.ite_pos (by omega) ?_))
   rw [rdOf_drop h, rdOf_drop h', wrap_succ (by omega)]
   by_cases e : x = y
   ·subst e
    refine Ev.ite_pos rfl ((same_loop a b hl ha r q (i + 1) h3 g3).eq ?_)
    simp
   ·refine Ev.ite_neg (fun z => e (toList_inj.mp z)) (Ev.some_ ?_)
    simp [e]
theorem same (a b : List ByteArray) (ha : a.length ≤ 8796093022208) : Ev (fun k => treadleref04_Same.f k a b) (decide (a = b)) := by
 unfold treadleref04_Same.f
 by_cases h : (a.length : Int) = (b.length : Int)
 ·exact Ev.ite_pos h (same_loop a b (by omega) ha a b 0 rfl rfl)
 ·refine Ev.ite_neg h (Ev.some_ ?_)
  have : a ≠ b := fun e => h (by rw [e])
  simp [this]
theorem same_refl (a : List ByteArray) (ha : a.length ≤ 8796093022208) : Ev (fun k => treadleref04_Same.f k a a) true := (same a a ha).eq (by simp)
theorem pcheck (s : ByteArray) (hs : s.size ≤ 549755813888) : Ev (fun k => path_Check.f k s) (match namesOf s with | some _ => 0 | none => 45) := by
 unfold path_Check.f
 refine Ev.bind (pnames s hs) (Ev.some_ ?_)
 cases namesOf s <;> rfl
def aimP (dir s : ByteArray) : ByteArray × Int :=
 match namesOf dir with
 | none => (⟨#[]⟩, 45)
 | some _ => if (sp [] (L s)).head? = some [46] ∨ (sp [] (L s)).head? = some [46, 46] then joinP dir [s] else cleanP s
theorem cut_slash (s : ByteArray) (hs : s.size ≤ 1048576) : ∃ x y z, strings_Cut.f s slash = some (x, y, z) ∧ (sp [] (L s)).head? = some (L x) := by
 unfold strings_Cut.f stringslite_Cut.f
 have hi : stringslite_Index.f s slash = some (Lib.indexByte (L s) 47) := rfl
 rw [hi]
 simp only [Option.bind_some]
 have hl := L_length s
 rcases indexByte_spec (L s) 47 with ⟨h1, h2⟩ | ⟨m, h1, h2, h3, h4⟩
 ·rw [h1, if_neg (by omega)]
  exact ⟨_, _, _, rfl, by rw [sp_none _ _ h2]; simp⟩
 ·rw [h1, if_pos (by omega), if_pos (by omega), if_pos (by omega)]
  have w1 : wrap64 ((m : Int) + (slash.size : Int)) = ((m + 1 : Nat) : Int) := wrap_succ (by omega)
  rw [w1, if_pos (by omega), if_pos (by omega)]
  refine ⟨_, _, _, rfl, ?_⟩
  rw [sp_at [] (L s) m h3 h4, L_extract]; simp
theorem paim (dir s : ByteArray) (hd : dir.size ≤ 1048576) (hs : s.size ≤ 1048576) : Ev (fun k => path_Aim.f k dir s) (aimP dir s) := by
 unfold path_Aim.f aimP
 refine Ev.bind (pcheck dir (by omega)) ?_
 cases hn : namesOf dir with
 | none => exact Ev.ite_neg (by simp) (Ev.some_ rfl)
 | some n =>
  obtain ⟨x, y, z, hc, hh⟩ := cut_slash s hs
  refine Ev.ite_pos rfl (Ev.bind_now hc ?_)
  have jt : ∀ b : Bool, b = true → Ev (fun k => path_Aim.j0 k dir s b) (joinP dir [s]) := fun b hb => by
   refine Ev.step (fun k => path_Aim.j0.eq_2 _ _ _ k) ?_
   exact Ev.ite_pos hb (Ev.bind (pjoin dir [s] hd (by simp)) (Ev.some_ rfl))
  by_cases e1 : x.toList = ([46] : List UInt8)
  ·refine Ev.ite_pos e1 ((jt _ rfl).eq ?_)
   rw [toList_L] at e1
   rw [hh, if_pos (.inl (by rw [e1]))]
  ·refine Ev.ite_neg e1 ?_
   by_cases e2 : x.toList = ([46, 46] : List UInt8)
   ·refine (jt _ (by simp [e2])).eq ?_
    rw [toList_L] at e2
    rw [hh, if_pos (.inr (by rw [e2]))]
   ·refine Ev.step (fun k => path_Aim.j0.eq_2 _ _ _ k) ?_
    refine Ev.ite_neg (by simp [e2]) (Ev.bind (pclean s) (Ev.some_ ?_))
    rw [toList_L] at e1 e2
    rw [hh, if_neg (by simp [e1, e2])]
theorem raim (dir s : ByteArray) (hd : dir.size ≤ 1048576) (hs : s.size ≤ 1048576) : Ev (fun k => treadleref04_Aim.f k dir s) (aimP dir s) := by
 unfold treadleref04_Aim.f aimP
 have hp : Ev (fun k => treadleref04_Path.f k dir) (match namesOf dir with | some _ => true | none => false) := by
  unfold treadleref04_Path.f
  refine Ev.bind (rnames dir (by omega)) (Ev.some_ ?_)
  cases namesOf dir <;> rfl
 refine Ev.bind hp ?_
 cases hn : namesOf dir with
 | none => exact Ev.ite_neg (by simp) (Ev.some_ rfl)
 | some n =>
  refine Ev.ite_pos rfl (Ev.bind (rpieces s (by omega)) ?_)
  have hpl : 0 < (pieces s).length := by rw [pieces_length]; omega
  refine Ev.ite_pos (by omega) ?_
  have hx : (sp [] (L s)).head? = some (L (rdOf ByteArray.empty (pieces s) 0)) := by
   unfold pieces
   cases hsp : sp [] (L s) with
   | nil => exact absurd hsp (sp_ne _ _)
   | cons a b => simp [rdOf, L]
  generalize rdOf ByteArray.empty (pieces s) 0 = x at hx
  have jt : ∀ b : Bool, b = true → Ev (fun k => treadleref04_Aim.j0 k dir s b) (joinP dir [s]) := fun b hb => by
   refine Ev.step (fun k => treadleref04_Aim.j0.eq_2 _ _ _ k) ?_
   exact Ev.ite_pos hb (Ev.bind (rjoin dir [s] hd (by simp)) (Ev.some_ rfl))
  by_cases e1 : x.toList = ([46] : List UInt8)
  ·refine Ev.ite_pos e1 ((jt _ rfl).eq ?_)
   rw [toList_L] at e1
   rw [hx, if_pos (.inl (by rw [e1]))]
  ·refine Ev.ite_neg e1 ?_
   by_cases e2 : x.toList = ([46, 46] : List UInt8)
   ·refine (jt _ (by simp [e2])).eq ?_
    rw [toList_L] at e2
    rw [hx, if_pos (.inr (by rw [e2]))]
   ·refine Ev.step (fun k => treadleref04_Aim.j0.eq_2 _ _ _ k) ?_
    refine Ev.ite_neg (by simp [e2]) (Ev.bind (rclean s) (Ev.some_ ?_))
    rw [toList_L] at e1 e2
    rw [hx, if_neg (by simp [e1, e2])]
def pc (x : ByteArray) : Prop := (47 : UInt8) ∉ L x ∧ L x ≠ []
theorem txt_size (l : List ByteArray) (h : l.all nm = true) (hl : l.length ≤ 32) : (txt l).size ≤ 2080 := by
 have h1 := tot_nm l h
 have h2 := txtL_length l
 rw [size_eq_L]; unfold txt; rw [L_mkB]; omega
def splitP (s : ByteArray) : ByteArray × ByteArray × Int :=
 match namesOf s with
 | none => (⟨#[]⟩, ⟨#[]⟩, 45)
 | some l => if l = [] then (⟨#[]⟩, ⟨#[]⟩, 46) else (txt l.dropLast, l.getLastD ⟨#[]⟩, 0)
theorem take_dropLast (l : List ByteArray) : l.take (((l.length : Int) - 1)).toNat = l.dropLast := by
 rw [List.dropLast_eq_take]; congr 1; omega
theorem rd_last (l : List ByteArray) (h : l ≠ []) : rdOf ByteArray.empty l ((l.length : Int) - 1) = l.getLastD ⟨#[]⟩ := by
 have hl : 0 < l.length := List.length_pos_iff.mpr h
 unfold rdOf
 have e : (((l.length : Int) - 1)).toNat = l.length - 1 := by omega
 rw [e, List.getD_eq_getElem?_getD, List.getElem?_eq_getElem (by omega), List.getLastD_eq_getLast?, List.getLast?_eq_getElem?, List.getElem?_eq_getElem (by omega)]
 rfl
theorem dropLast_nm {l : List ByteArray} (h : l.all nm = true) : l.dropLast.all nm = true := by
 rw [List.all_eq_true] at h ⊢
 exact fun x hx => h x (List.dropLast_subset _ hx)
theorem psplitP (s : ByteArray) (hs : s.size ≤ 1048576) : Ev (fun k => path_Split.f k s) (splitP s) := by
 unfold path_Split.f splitP
 refine Ev.bind (pnames s (by omega)) ?_
 cases hn : namesOf s with
 | none => exact Ev.ite_neg (by simp) (Ev.some_ rfl)
 | some l =>
  obtain ⟨h1, h2⟩ := namesOf_nm hn
  refine Ev.ite_pos rfl ?_
  dsimp only
  have w : wrap64 ((l.length : Int) - 1) = (l.length : Int) - 1 := wrap_id (by omega) (by omega)
  rw [w]
  by_cases hl : l = []
  ·subst hl; exact Ev.ite_pos (by simp) (Ev.some_ rfl)
  ·have hp : 0 < l.length := List.length_pos_iff.mpr hl
   rw [if_neg hl, take_dropLast, rd_last l hl]
   have ht := tot_nm _ (dropLast_nm h1)
   rw [List.length_dropLast] at ht
   exact Ev.ite_neg (by omega) (Ev.ite_pos (by omega) (Ev.ite_pos (by omega) (Ev.bind_now (pjoins _ (by omega)) (Ev.ite_pos (by omega) (Ev.some_ rfl)))))
theorem rsplitP (s : ByteArray) (hs : s.size ≤ 1048576) : Ev (fun k => treadleref04_Split.f k s) (splitP s) := by
 unfold treadleref04_Split.f splitP
 refine Ev.bind (rnames s (by omega)) ?_
 cases hn : namesOf s with
 | none => exact Ev.ite_neg (by simp) (Ev.some_ rfl)
 | some l =>
  obtain ⟨h1, h2⟩ := namesOf_nm hn
  refine Ev.ite_pos rfl ?_
  dsimp only
  have w : wrap64 ((l.length : Int) - 1) = (l.length : Int) - 1 := wrap_id (by omega) (by omega)
  rw [w]
  by_cases hl : l = []
  ·subst hl; exact Ev.ite_pos rfl (Ev.some_ rfl)
  ·have hp : 0 < l.length := List.length_pos_iff.mpr hl
   rw [if_neg hl, take_dropLast, rd_last l hl]
   have ht := tot_nm _ (dropLast_nm h1)
   rw [List.length_dropLast] at ht
   exact Ev.ite_neg (by omega) (Ev.ite_pos (by omega) (Ev.ite_pos (by omega) (Ev.bind (rtext _ (by omega)) (Ev.ite_pos (by omega) (Ev.some_ rfl)))))
end Go.Proofs.YtifachjefpcgcaaGreatDoor.Pth
