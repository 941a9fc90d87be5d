import Derived.Test.YtifachjefpcgcaaDoorBScanLawsB
namespace Go.Proofs.YtifachjefpcgcaaDoor.Pure
open Go.RowKit Go.Proofs.YtifachjefpcgcaaDoor.P Go.Proofs.YtifachjefpcgcaaDoor.Base Go.Proofs.YtifachjefpcgcaaDoorW.PrintWords Go.Proofs.YtifachjefpcgcaaDoorW.PrintLast Go.Proofs.YtifachjefpcgcaaDoorW.PrintMore
set_option linter.unusedVariables false
set_option linter.unusedSimpArgs false
theorem mk_app (A : List UInt8) (b : ByteArray) : mkB A ++ b = mkB (A ++ L b) := by
 apply L_inj; rw [L_append, L_mkB, L_mkB]
theorem rwith_loop (s : ByteArray) (e : Nat) (he : e ≤ s.size) (hs : s.size ≤ 1048576) (l : List SI) (hl : l.length ≤ 1048576) (hz : ∀ x ∈ l, x.f0.size ≤ 1048576 ∧ x.f1.size ≤ 1048576) :
  ∀ (r : List SI) (i : Nat) (A : List UInt8), l.drop i = r → A.length ≤ 131072 → Ev (fun k => treadleref13_With.l0 k s l e (mkB A) i) (withT ((L s).drop e) r A)
 | [], i, A, h, hA => by
  have := drop_none h
  have hAs : (mkB A).size = A.length := by rw [size_eq_L, L_mkB]
  refine Ev.step (fun k => treadleref13_With.l0.eq_2 _ _ _ _ _ k) (Ev.ite_neg (by omega) (Ev.ite_pos (by omega) (Ev.ite_pos (by omega) ?_)))
  have hx : L (s.extract (e : Int).toNat s.size) = (L s).drop e := by
   rw [L_extract, Int.toNat_natCast]
   exact List.take_of_length_le (by rw [List.length_drop, L_length]; omega)
  have hxs : (s.extract (e : Int).toNat s.size).size ≤ 1048576 := by rw [size_eq_L, hx, List.length_drop, L_length]; omega
  refine Ev.ite_pos (by omega) ?_
  rw [mk_app, hx]
  have hBs : (mkB (A ++ (L s).drop e)).size = (A ++ (L s).drop e).length := by rw [size_eq_L, L_mkB]
  unfold withT putAll
  simp only
  by_cases hb : (A ++ (L s).drop e).length > 65536
  ·exact Ev.ite_pos (by omega) (Ev.some_ (by rw [if_pos hb]))
  ·exact Ev.ite_neg (by omega) (Ev.some_ (by rw [if_neg hb]))
 | x :: r, i, A, h, hA => by
  obtain ⟨h1, _, h3⟩ := drop_some h
  have hAs : (mkB A).size = A.length := by rw [size_eq_L, L_mkB]
  have hx : rd_T35 l (i : Int) = x := rdI_drop h
  have hw : wrap64 ((i : Int) + 1) = ((i + 1 : Nat) : Int) := wrap_succ (by omega)
  have hm : x ∈ l := by have := List.mem_of_mem_drop (show x ∈ l.drop i by rw [h]; simp); exact this
  obtain ⟨z1, z2⟩ := hz x hm
  have jt : ∀ (q : ByteArray) (B : Bool), B = true → Ev (fun k => treadleref13_With.j1 k s l e (mkB A) i q B) (⟨#[]⟩, 1) := fun q B hB =>
   Ev.step (fun k => treadleref13_With.j1.eq_2 _ _ _ _ _ _ _ k) (Ev.ite_pos hB (Ev.some_ rfl))
  refine Ev.step (fun k => treadleref13_With.l0.eq_2 _ _ _ _ _ k) (Ev.ite_pos (by omega) (Ev.ite_pos (by omega) ?_))
  rw [hx]
  refine Ev.bind (rquote x.f0 z1) ?_
  unfold withT putAll
  by_cases hq : (quoteR x.f0).2 = 0
  ·refine Ev.ite_pos hq (Ev.bind (rword x.f1 z2) ?_)
   by_cases hn : (nameOk (L x.f1) && !decide (L x.f1 ∈ keyTexts)) = true
   ·have hok : okX x = true := by unfold okX; rw [decide_eq_true hq, hn]; rfl
    rw [if_pos hok]
    refine Ev.step (fun k => treadleref13_With.j1.eq_2 _ _ _ _ _ _ _ k) (Ev.ite_neg (by rw [hn]; simp) ?_)
    rw [hx]
    have hql := quote_len x.f0
    have hnl := ok_name hok
    have hpl := putB_len hok
    by_cases h6 : A.length ≤ 65536
    ·have hrec := rwith_loop s e he hs l hl hz r (i + 1) (A ++ putB x) h3 (by rw [List.length_append]; omega)
     rw [if_pos h6]
     have hps : (((((⟨#[105, 110, 99, 108, 117, 100, 101, 32]⟩ : ByteArray) ++ (quoteR x.f0).1) ++ (⟨#[32, 97, 115, 32]⟩ : ByteArray)) ++ x.f1) ++ (⟨#[59, 10]⟩ : ByteArray)).size ≤ 17000 := by rw [size_eq_L, L_put]; exact hpl
     have k1 : ((⟨#[105, 110, 99, 108, 117, 100, 101, 32]⟩ : ByteArray) ++ (quoteR x.f0).1).size = 8 + (quoteR x.f0).1.size := by rw [ByteArray.size_append]; rfl
     have k2 : (((⟨#[105, 110, 99, 108, 117, 100, 101, 32]⟩ : ByteArray) ++ (quoteR x.f0).1) ++ (⟨#[32, 97, 115, 32]⟩ : ByteArray)).size = 8 + (quoteR x.f0).1.size + 4 := by rw [ByteArray.size_append, k1]; rfl
     have k3 : ((((⟨#[105, 110, 99, 108, 117, 100, 101, 32]⟩ : ByteArray) ++ (quoteR x.f0).1) ++ (⟨#[32, 97, 115, 32]⟩ : ByteArray)) ++ x.f1).size = 8 + (quoteR x.f0).1.size + 4 + x.f1.size := by rw [ByteArray.size_append, k2]
     refine Ev.ite_pos (by omega) (Ev.ite_pos (by omega) (Ev.ite_pos (by omega) (Ev.ite_pos (by omega) (Ev.ite_pos (by omega) (Ev.ite_pos (by omega) (Ev.ite_pos (by omega) (Ev.ite_pos (by omega) ?_)))))))
     rw [mk_app, L_put, hw]
     exact hrec
    ·have hrec := rwith_loop s e he hs l hl hz r (i + 1) A h3 hA
     rw [if_neg h6]
     refine Ev.ite_neg (by omega) ?_
     rw [hw]; exact hrec
   ·have hok : ¬ okX x = true := by unfold okX; rw [decide_eq_true hq]; simpa using hn
    rw [if_neg hok]
    exact jt _ _ (by rw [Bool.not_eq_true] at hn; rw [hn]; rfl)
  ·have hok : ¬ okX x = true := by unfold okX; rw [decide_eq_false hq]; simp
   rw [if_neg hok]
   exact Ev.ite_neg hq (jt _ _ rfl)
theorem rwith (s : ByteArray) (hs : s.size ≤ 1048576) (l : List SI) (hl : l.length ≤ 1048576) (hz : ∀ x ∈ l, x.f0.size ≤ 1048576 ∧ x.f1.size ≤ 1048576) : Ev (fun k => treadleref13_With.f k s l) (withR s l) := by
 unfold treadleref13_With.f withR
 refine Ev.bind (rincs s hs) ?_
 obtain ⟨_, b2⟩ := foundT_bd s
 generalize foundT s = X at *
 obtain ⟨m, e, c, d⟩ := X
 unfold resF
 simp only at b2 ⊢
 by_cases hc : c ≠ 0
 ·rw [if_pos hc, if_pos hc]
  exact Ev.ite_neg (by simp only; omega) (Ev.some_ rfl)
 ·rw [if_neg hc, if_neg hc]
  exact Ev.ite_pos rfl (rwith_loop s e b2 hs l hl hz l 0 [] rfl (by simp))
theorem ScanPuts (s : ByteArray) (l : List SI) (hs : s.size ≤ 1048576) (hl : l.length ≤ 1048576) (hz : ∀ x ∈ l, x.f0.size ≤ 1048576 ∧ x.f1.size ≤ 1048576) : Ev (fun k => treadlelaw13_ScanPuts.f k s l) true := by
 unfold treadlelaw13_ScanPuts.f
 exact Ev.bind (lwith s hs l hl hz) (Ev.bind (rwith s hs l hl hz) (Ev.ite_pos rfl (Ev.ite_pos rfl (Ev.bind alive (Ev.some_ rfl)))))
end Go.Proofs.YtifachjefpcgcaaDoor.Pure
