/- Layer 4, path: what the printed functions on names and pieces answer, in plain words. -/
import Derived.Test.YtaolgiojjeopkaaDoorBase
import Derived.Test.YtaolgiojjeopkaaDoorPD
namespace Go.Proofs.YtaolgiojjeopkaaDoor.Pure
open Go.RowKit Go.Proofs.YtaolgiojjeopkaaDoor.P Go.Proofs.YtaolgiojjeopkaaDoor.Base Go.Proofs.YtaolgiojjeopkaaDoorW.PrintWords Go.Proofs.YtaolgiojjeopkaaDoorW.PrintLast Go.Proofs.YtaolgiojjeopkaaDoorW.PrintMore
set_option linter.unusedVariables false
set_option linter.unusedSimpArgs false

/-! ### a name -/
def okb (c : UInt8) : Bool := (decide (97 ≤ c.toNat) && decide (c.toNat ≤ 122)) || (decide (65 ≤ c.toNat) && decide (c.toNat ≤ 90)) || (decide (48 ≤ c.toNat) && decide (c.toNat ≤ 57)) || decide (c.toNat = 46) || decide (c.toNat = 95) || decide (c.toNat = 45)
def nm (s : ByteArray) : Bool := decide (1 ≤ s.size) && decide (s.size ≤ 64) && decide (L s ≠ [46]) && decide (L s ≠ [46, 46]) && (L s).all okb

theorem pname_step (s : ByteArray) (hs : s.size < 4611686018427387904) (i : Nat) (c : UInt8) (r : List UInt8) (h : (L s).drop i = c :: r) (k : Nat) :
    path_Name.l0 (k + 1) s s.size i = if okb c = true then path_Name.l0 k s s.size ((i + 1 : Nat) : Int) else some 42 := by
  obtain ⟨hb, hi⟩ := bt_drop h
  have h1 : (i : Int) < (s.size : Int) := by omega
  have h2 : (0 : Int) ≤ (i : Int) := by omega
  rw [path_Name.l0, if_pos h1, if_pos h2, if_pos h1, hb, wrap_succ (by omega)]
  unfold okb
  generalize path_Name.l0 k s s.size ((i + 1 : Nat) : Int) = X
  generalize c.toNat = n
  (repeat' split) <;> first | rfl | (exfalso; simp_all; done) | (exfalso; simp_all; omega)
theorem rname_step (s : ByteArray) (hs : s.size < 4611686018427387904) (i : Nat) (c : UInt8) (r : List UInt8) (h : (L s).drop i = c :: r) (k : Nat) :
    treadleref04_Name.l0 (k + 1) s i = if okb c = true then treadleref04_Name.l0 k s ((i + 1 : Nat) : Int) else some false := by
  obtain ⟨hb, hi⟩ := bt_drop h
  have h1 : (i : Int) < (s.size : Int) := by omega
  have h2 : (0 : Int) ≤ (i : Int) := by omega
  rw [treadleref04_Name.l0, if_pos h1, if_pos h2, hb, wrap_succ (by omega)]
  unfold okb
  generalize treadleref04_Name.l0 k s ((i + 1 : Nat) : Int) = X
  generalize c.toNat = n
  (repeat' split) <;> first | rfl | (exfalso; simp_all; done) | (exfalso; simp_all; omega)
theorem pname_loop (s : ByteArray) (hs : s.size < 4611686018427387904) : ∀ (r : List UInt8) (i : Nat), (L s).drop i = r → Ev (fun k => path_Name.l0 k s s.size i) (if r.all okb = true then 0 else 42)
  | [], i, h => by
    have := drop_none h
    rw [L_length] at this
    refine Ev.step (fun k => path_Name.l0.eq_2 _ _ _ k) ?_
    exact Ev.ite_neg (by omega) (Ev.some_ rfl)
  | c :: r, i, h => by
    refine Ev.step (fun k => pname_step s hs i c r h k) ?_
    by_cases hc : okb c = true
    · refine Ev.ite_pos hc ((pname_loop s hs r (i + 1) (drop_some h).2.2).eq ?_)
      simp [hc]
    · refine Ev.ite_neg hc (Ev.some_ ?_)
      simp [hc]
theorem rname_loop (s : ByteArray) (hs : s.size < 4611686018427387904) : ∀ (r : List UInt8) (i : Nat), (L s).drop i = r → Ev (fun k => treadleref04_Name.l0 k s i) (r.all okb)
  | [], i, h => by
    have := drop_none h
    rw [L_length] at this
    refine Ev.step (fun k => treadleref04_Name.l0.eq_2 _ _ k) ?_
    exact Ev.ite_neg (by omega) (Ev.some_ rfl)
  | c :: r, i, h => by
    refine Ev.step (fun k => rname_step s hs i c r h k) ?_
    by_cases hc : okb c = true
    · refine Ev.ite_pos hc ((rname_loop s hs r (i + 1) (drop_some h).2.2).eq ?_)
      simp [hc]
    · refine Ev.ite_neg hc (Ev.some_ ?_)
      simp [hc]
theorem pname (s : ByteArray) : Ev (fun k => path_Name.f k s) (if nm s = true then 0 else 42) := by
  unfold path_Name.f
  have hj : ∀ b : Bool, b = true → Ev (fun k => path_Name.j0 k s b) 42 := fun b hb => by
    refine Ev.step (fun k => path_Name.j0.eq_2 _ _ k) ?_
    exact Ev.ite_pos hb (Ev.some_ rfl)
  by_cases h1 : (s.size : Int) < 1
  · refine Ev.ite_pos h1 ((hj _ rfl).eq ?_)
    rw [if_neg]; unfold nm; simp; omega
  refine Ev.ite_neg h1 ?_
  by_cases h2 : (s.size : Int) > 64
  · refine Ev.ite_pos h2 ((hj _ rfl).eq ?_)
    rw [if_neg]; unfold nm; simp; omega
  refine Ev.ite_neg h2 ?_
  by_cases h3 : s.toList = ([46] : List UInt8)
  · refine Ev.ite_pos h3 ((hj _ rfl).eq ?_)
    rw [toList_L] at h3
    rw [if_neg]; unfold nm; simp [h3]
  refine Ev.ite_neg h3 ?_
  by_cases h4 : s.toList = ([46, 46] : List UInt8)
  · refine (hj _ (by simp [h4])).eq ?_
    rw [toList_L] at h4
    rw [if_neg]; unfold nm; simp [h4]
  · refine Ev.step (fun k => path_Name.j0.eq_2 _ _ k) ?_
    refine Ev.ite_neg (by simp [h4]) ((pname_loop s (by omega) (L s) 0 rfl).eq ?_)
    rw [toList_L] at h3 h4
    have : nm s = (L s).all okb := by
      unfold nm
      simp [h3, h4, show 1 ≤ s.size by omega, show s.size ≤ 64 by omega]
    rw [this]
theorem rname (s : ByteArray) : Ev (fun k => treadleref04_Name.f k s) (nm s) := by
  unfold treadleref04_Name.f
  have hj : ∀ b : Bool, b = true → Ev (fun k => treadleref04_Name.j0 k s b) false := fun b hb => by
    refine Ev.step (fun k => treadleref04_Name.j0.eq_2 _ _ k) ?_
    exact Ev.ite_pos hb (Ev.some_ rfl)
  by_cases h1 : (s.size : Int) < 1
  · refine Ev.ite_pos h1 ((hj _ rfl).eq ?_)
    unfold nm; simp; omega
  refine Ev.ite_neg h1 ?_
  by_cases h2 : (s.size : Int) > 64
  · refine Ev.ite_pos h2 ((hj _ rfl).eq ?_)
    unfold nm; simp; omega
  refine Ev.ite_neg h2 ?_
  by_cases h3 : s.toList = ([46] : List UInt8)
  · refine Ev.ite_pos h3 ((hj _ rfl).eq ?_)
    rw [toList_L] at h3
    unfold nm; simp [h3]
  refine Ev.ite_neg h3 ?_
  by_cases h4 : s.toList = ([46, 46] : List UInt8)
  · refine (hj _ (by simp [h4])).eq ?_
    rw [toList_L] at h4
    unfold nm; simp [h4]
  · refine Ev.step (fun k => treadleref04_Name.j0.eq_2 _ _ k) ?_
    refine Ev.ite_neg (by simp [h4]) ((rname_loop s (by omega) (L s) 0 rfl).eq ?_)
    rw [toList_L] at h3 h4
    unfold nm
    simp [h3, h4, show 1 ≤ s.size by omega, show s.size ≤ 64 by omega]

/-! ### pieces -/
def sp (cur : List UInt8) : List UInt8 → List (List UInt8)
  | [] => [cur]
  | c :: r => if c = 47 then cur :: sp [] r else sp (cur ++ [c]) r
def pieces (s : ByteArray) : List ByteArray := (sp [] (L s)).map mkB
theorem sp_length (cur : List UInt8) (l : List UInt8) : (sp cur l).length = l.count 47 + 1 := by
  induction l generalizing cur with
  | nil => rfl
  | cons c r ih =>
    unfold sp
    split
    · rename_i h; simp [h, ih]
    · rename_i h; rw [ih, List.count_cons_of_ne (by simpa using h)]
theorem sp_ne (cur : List UInt8) (l : List UInt8) : sp cur l ≠ [] := by
  intro h
  have := sp_length cur l
  rw [h] at this; simp at this
theorem pieces_length (s : ByteArray) : (pieces s).length = (L s).count 47 + 1 := by simp [pieces, sp_length]
theorem pieces_le (s : ByteArray) : (pieces s).length ≤ s.size + 1 := by
  rw [pieces_length, ← L_length s]
  have := List.count_le_length (a := (47 : UInt8)) (l := L s)
  omega

theorem rpieces_loop (s : ByteArray) (hs : s.size ≤ 1099511627776) : ∀ (r cur : List UInt8) (i f : Nat) (acc : List ByteArray), (L s).drop i = r → f ≤ i → i ≤ s.size → ((L s).drop f).take (i - f) = cur → acc.length ≤ i →
    Ev (fun k => treadleref04_Pieces.l0 k s acc f i) (acc ++ (sp cur r).map mkB)
  | [], cur, i, f, acc, h, hf, hi, hc, ha => by
    have h0 := drop_none h
    rw [L_length] at h0
    have hie : i = s.size := by omega
    subst hie
    refine Ev.step (fun k => treadleref04_Pieces.l0.eq_2 _ _ _ _ k) ?_
    refine Ev.ite_pos (by omega) (Ev.ite_pos rfl (Ev.ite_pos (by omega) (Ev.ite_pos (by omega) (Ev.ite_pos (by omega) ?_))))
    rw [wrap_succ (by omega)]
    refine Ev.step (fun k => treadleref04_Pieces.l0.eq_2 _ _ _ _ k) ?_
    refine Ev.ite_neg (by omega) (Ev.some_ ?_)
    have e : s.extract (f : Int).toNat ((s.size : Nat) : Int).toNat = mkB cur := by
      apply L_inj
      rw [L_extract, L_mkB, ← hc]; simp
    rw [e]; rfl
  | c :: r, cur, i, f, acc, h, hf, hi, hc, ha => by
    obtain ⟨hb, hlt⟩ := bt_drop h
    refine Ev.step (fun k => treadleref04_Pieces.l0.eq_2 _ _ _ _ k) ?_
    refine Ev.ite_pos (by omega) (Ev.ite_neg (by omega) (Ev.ite_pos (by omega) (Ev.ite_pos (by omega) ?_)))
    rw [hb, wrap_succ (by omega)]
    have hd := (drop_some h).2.2
    by_cases h47 : c = 47
    · subst h47
      refine Ev.ite_pos (by decide) (Ev.ite_pos (by omega) (Ev.ite_pos (by omega) (Ev.ite_pos (by omega) ?_)))
      have e : s.extract (f : Int).toNat (i : Int).toNat = mkB cur := by
        apply L_inj
        rw [L_extract, L_mkB, ← hc]; simp
      rw [e]
      refine (rpieces_loop s hs r [] (i + 1) (i + 1) (acc ++ [mkB cur]) hd (Nat.le_refl _) (by omega) (by simp) (by simp; omega)).eq ?_
      simp [sp]
    · refine Ev.ite_neg (fun e => h47 (by apply UInt8.toNat_inj.mp; simp; omega)) ?_
      refine (rpieces_loop s hs r (cur ++ [c]) (i + 1) f acc hd (by omega) (by omega) ?_ (by omega)).eq ?_
      · rw [← hc, show i + 1 - f = (i - f) + 1 by omega]
        refine take_drop_succ (r := r) ?_
        rw [List.drop_drop, show f + (i - f) = i by omega]; exact h
      · rw [sp, if_neg h47]
theorem rpieces (s : ByteArray) (hs : s.size ≤ 1099511627776) : Ev (fun k => treadleref04_Pieces.f k s) (pieces s) := by
  unfold treadleref04_Pieces.f
  exact rpieces_loop s hs (L s) [] 0 0 [] rfl (Nat.le_refl _) (by omega) (by simp) (by simp)
end Go.Proofs.YtaolgiojjeopkaaDoor.Pure
