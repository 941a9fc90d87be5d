import Derived.Test.YtifachjefpcgcaaGreatDoorGLexPart
import Derived.Test.YtifachjefpcgcaaGreatDoorGPathPart
namespace Go.Proofs.YtifachjefpcgcaaGreatDoor.Pure
open Go.RowKit Go.Proofs.YtifachjefpcgcaaGreatDoor.P Go.Proofs.YtifachjefpcgcaaGreatDoor.Base Go.Proofs.YtifachjefpcgcaaGreatDoorW.PrintWords Go.Proofs.YtifachjefpcgcaaGreatDoorW.PrintLast Go.Proofs.YtifachjefpcgcaaGreatDoorW.PrintMore
set_option linter.unusedVariables false
set_option linter.unusedSimpArgs false
def aimX (dir : ByteArray) (x : SI) : ByteArray × Int := if (Pth.aimP dir x.f0).2 = 0 ∧ L (Pth.aimP dir x.f0).1 = [] then ((Pth.aimP dir x.f0).1, 46) else Pth.aimP dir x.f0
def aimAll (dir : ByteArray) : List SI → List ByteArray → List ByteArray × Int × Int
 | [], A => (A, 0, 0)
 | x :: r, A => if (aimX dir x).2 = 0 then aimAll dir r (A ++ [(aimX dir x).1]) else ([], (aimX dir x).2, x.f2)
theorem aimAll_len (dir : ByteArray) : ∀ (l : List SI) (A : List ByteArray), (aimAll dir l A).1.length ≤ A.length + l.length
 | [], A => by simp [aimAll]
 | x :: r, A => by
  unfold aimAll
  split
  ·have := aimAll_len dir r (A ++ [(aimX dir x).1])
   rw [List.length_append] at this
   simp only [List.length_cons, List.length_nil] at this ⊢; omega
  ·simp
theorem laim_loop (dir : ByteArray) (hd : dir.size ≤ 1048576) (l : List SI) (hl : l.length ≤ 1048576) (hz : ∀ x ∈ l, x.f0.size ≤ 1048576 ∧ x.f1.size ≤ 1048576) :
  ∀ (r : List SI) (i : Nat) (A : List ByteArray), l.drop i = r → A.length ≤ i → Ev (fun k => scan_Aimed.l0 k dir A l l.length i) (aimAll dir r A)
 | [], i, A, h, hA => by
  have := drop_none h
  exact Ev.step (fun k => scan_Aimed.l0.eq_2 _ _ _ _ _ k) (Ev.ite_neg (by omega) (Ev.some_ rfl))
 | x :: r, i, A, h, hA => by
  obtain ⟨h1, _, h3⟩ := drop_some h
  have hx : rd_T35 l (i : Int) = x := rdI_drop h
  have hw : wrap64 ((i : Int) + 1) = ((i + 1 : Nat) : Int) := wrap_succ (by omega)
  have hm : x ∈ l := List.mem_of_mem_drop (show x ∈ l.drop i by rw [h]; simp)
  have hrec := laim_loop dir hd l hl hz r (i + 1) (A ++ [(aimX dir x).1]) h3 (by rw [List.length_append]; simp; omega)
  refine Ev.step (fun k => scan_Aimed.l0.eq_2 _ _ _ _ _ k) (Ev.ite_pos (by omega) (Ev.ite_pos (by omega) (Ev.ite_pos (by omega) ?_)))
  rw [hx]
  refine Ev.bind (Pth.paim dir x.f0 hd (hz x hm).1) ?_
  obtain ⟨p, e, hpe⟩ : ∃ p e, Pth.aimP dir x.f0 = (p, e) := ⟨_, _, rfl⟩
  have hX : aimX dir x = if e = 0 ∧ L p = [] then (p, 46) else (p, e) := by unfold aimX; rw [hpe]
  rw [hpe]
  unfold aimAll
  dsimp only at hrec ⊢
  by_cases he : e = 0
  ·subst he
   refine Ev.ite_pos rfl ?_
   by_cases hp : L p = []
   ·rw [if_pos ⟨rfl, hp⟩] at hX
    rw [hX]
    dsimp only
    rw [if_neg (by decide)]
    refine Ev.step (fun k => scan_Aimed.j1.eq_2 _ _ _ _ _ _ _ _ _ _ _ k) (Ev.ite_pos ?_ (Ev.ite_neg (by decide) (Ev.some_ rfl)))
    rw [toList_L, hp]; rfl
   ·rw [if_neg (fun h => hp h.2)] at hX
    rw [hX] at hrec ⊢
    dsimp only at hrec ⊢
    rw [if_pos rfl]
    refine Ev.step (fun k => scan_Aimed.j1.eq_2 _ _ _ _ _ _ _ _ _ _ _ k) (Ev.ite_neg ?_ (Ev.ite_pos rfl (Ev.ite_pos (by omega) ?_)))
    ·rw [toList_L, beq_iff_eq]; exact hp
    ·rw [hw]; exact hrec
  ·refine Ev.ite_neg he ?_
   rw [if_neg (fun h => he h.1)] at hX
   rw [hX]
   dsimp only
   rw [if_neg he]
   exact Ev.step (fun k => scan_Aimed.j1.eq_2 _ _ _ _ _ _ _ _ _ _ _ k) (Ev.ite_neg (by simp) (Ev.ite_neg he (Ev.some_ rfl)))
theorem raim_loop (dir : ByteArray) (hd : dir.size ≤ 1048576) (l : List SI) (hl : l.length ≤ 1048576) (hz : ∀ x ∈ l, x.f0.size ≤ 1048576 ∧ x.f1.size ≤ 1048576) :
  ∀ (r : List SI) (i : Nat) (A : List ByteArray), l.drop i = r → A.length ≤ i → Ev (fun k => treadleref13_Aimed.l0 k l dir A i) (aimAll dir r A)
 | [], i, A, h, hA => by
  have := drop_none h
  exact Ev.step (fun k => treadleref13_Aimed.l0.eq_2 _ _ _ _ k) (Ev.ite_neg (by omega) (Ev.some_ rfl))
 | x :: r, i, A, h, hA => by
  obtain ⟨h1, _, h3⟩ := drop_some h
  have hx : rd_T35 l (i : Int) = x := rdI_drop h
  have hw : wrap64 ((i : Int) + 1) = ((i + 1 : Nat) : Int) := wrap_succ (by omega)
  have hm : x ∈ l := List.mem_of_mem_drop (show x ∈ l.drop i by rw [h]; simp)
  have hrec := raim_loop dir hd l hl hz r (i + 1) (A ++ [(aimX dir x).1]) h3 (by rw [List.length_append]; simp; omega)
  refine Ev.step (fun k => treadleref13_Aimed.l0.eq_2 _ _ _ _ k) (Ev.ite_pos (by omega) (Ev.ite_pos (by omega) ?_))
  rw [hx]
  refine Ev.bind (Pth.raim dir x.f0 hd (hz x hm).1) ?_
  obtain ⟨p, e, hpe⟩ : ∃ p e, Pth.aimP dir x.f0 = (p, e) := ⟨_, _, rfl⟩
  have hX : aimX dir x = if e = 0 ∧ L p = [] then (p, 46) else (p, e) := by unfold aimX; rw [hpe]
  rw [hpe]
  unfold aimAll
  dsimp only at hrec ⊢
  by_cases he : e = 0
  ·subst he
   refine Ev.ite_pos rfl ?_
   by_cases hp : L p = []
   ·rw [if_pos ⟨rfl, hp⟩] at hX
    rw [hX]
    dsimp only
    rw [if_neg (by decide)]
    refine Ev.step (fun k => treadleref13_Aimed.j1.eq_2 _ _ _ _ _ _ _ k) (Ev.ite_pos ?_ (Ev.ite_neg (by decide) (Ev.ite_pos (by omega) (Ev.ite_pos (by omega) (Ev.some_ ?_)))))
    ·rw [toList_L, hp]; rfl
    ·rw [hx]
   ·rw [if_neg (fun h => hp h.2)] at hX
    rw [hX] at hrec ⊢
    dsimp only at hrec ⊢
    rw [if_pos rfl]
    refine Ev.step (fun k => treadleref13_Aimed.j1.eq_2 _ _ _ _ _ _ _ k) (Ev.ite_neg ?_ (Ev.ite_pos rfl (Ev.ite_pos (by omega) ?_)))
    ·rw [toList_L, beq_iff_eq]; exact hp
    ·rw [hw]; exact hrec
  ·refine Ev.ite_neg he ?_
   rw [if_neg (fun h => he h.1)] at hX
   rw [hX]
   dsimp only
   rw [if_neg he]
   refine Ev.step (fun k => treadleref13_Aimed.j1.eq_2 _ _ _ _ _ _ _ k) (Ev.ite_neg (by simp) (Ev.ite_neg he (Ev.ite_pos (by omega) (Ev.ite_pos (by omega) (Ev.some_ ?_)))))
   rw [hx]
def aimedR (s : ByteArray) (l : List SI) : List ByteArray × Int × Int := if (Pth.splitP s).2.2 = 0 then aimAll (Pth.splitP s).1 l [] else ([], (Pth.splitP s).2.2, 0)
theorem split_size (s : ByteArray) : (Pth.splitP s).1.size ≤ 1048576 := by
 unfold Pth.splitP
 cases hn : Pth.namesOf s with
 | none => exact Nat.zero_le _
 | some l =>
  obtain ⟨h1, h2⟩ := Pth.namesOf_nm hn
  dsimp only
  by_cases hl : l = []
  ·rw [if_pos hl]; exact Nat.zero_le _
  ·rw [if_neg hl]
   have := Pth.txt_size l.dropLast (Pth.dropLast_nm h1) (by rw [List.length_dropLast]; omega)
   exact Nat.le_trans this (by omega)
theorem laimed (s : ByteArray) (hs : s.size ≤ 1048576) (l : List SI) (hl : l.length ≤ 1048576) (hz : ∀ x ∈ l, x.f0.size ≤ 1048576 ∧ x.f1.size ≤ 1048576) : Ev (fun k => scan_Aimed.f k s l) (aimedR s l) := by
 unfold scan_Aimed.f aimedR
 refine Ev.bind (Pth.psplitP s hs) ?_
 have hd := split_size s
 by_cases h : (Pth.splitP s).2.2 = 0
 ·rw [if_pos h]
  exact Ev.ite_pos h (laim_loop _ hd l hl hz l 0 [] rfl (by simp))
 ·rw [if_neg h]
  exact Ev.ite_neg h (Ev.some_ rfl)
theorem raimed (s : ByteArray) (hs : s.size ≤ 1048576) (l : List SI) (hl : l.length ≤ 1048576) (hz : ∀ x ∈ l, x.f0.size ≤ 1048576 ∧ x.f1.size ≤ 1048576) : Ev (fun k => treadleref13_Aimed.f k s l) (aimedR s l) := by
 unfold treadleref13_Aimed.f aimedR
 refine Ev.bind (Pth.rsplitP s hs) ?_
 have hd := split_size s
 by_cases h : (Pth.splitP s).2.2 = 0
 ·rw [if_pos h]
  exact Ev.ite_pos h (raim_loop _ hd l hl hz l 0 [] rfl (by simp))
 ·rw [if_neg h]
  exact Ev.ite_neg h (Ev.some_ rfl)
theorem aimedR_len (s : ByteArray) (l : List SI) : (aimedR s l).1.length ≤ l.length := by
 unfold aimedR
 split
 ·have := aimAll_len (Pth.splitP s).1 l []; simpa using this
 ·simp
theorem ScanAims (s : ByteArray) (l : List SI) (hs : s.size ≤ 1048576) (hl : l.length ≤ 1048576) (hz : ∀ x ∈ l, x.f0.size ≤ 1048576 ∧ x.f1.size ≤ 1048576) : Ev (fun k => treadlelaw13_ScanAims.f k s l) true := by
 unfold treadlelaw13_ScanAims.f
 have hn := aimedR_len s l
 exact Ev.bind (laimed s hs l hl hz) (Ev.bind (raimed s hs l hl hz) (Ev.bind (Pth.same_refl _ (by omega)) (Ev.ite_pos rfl (Ev.ite_pos rfl (Ev.ite_pos rfl (Ev.bind alive (Ev.some_ rfl)))))))
end Go.Proofs.YtifachjefpcgcaaGreatDoor.Pure
