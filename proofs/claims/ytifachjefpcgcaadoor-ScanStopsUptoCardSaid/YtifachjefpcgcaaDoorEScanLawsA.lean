import Derived.Test.YtifachjefpcgcaaDoorEScanInc
namespace Go.Proofs.YtifachjefpcgcaaDoor.Pure
open Go.RowKit Go.Proofs.YtifachjefpcgcaaDoor.P Go.Proofs.YtifachjefpcgcaaDoor.Base Go.Proofs.YtifachjefpcgcaaDoorW.PrintWords Go.Proofs.YtifachjefpcgcaaDoorW.PrintLast Go.Proofs.YtifachjefpcgcaaDoorW.PrintMore
set_option linter.unusedVariables false
set_option linter.unusedSimpArgs false
abbrev rdI := rd_T35
theorem rdI_drop {xs : List SI} {j : Nat} {x : SI} {r : List SI} (h : xs.drop j = x :: r) : rdI xs (j : Int) = x := by
  unfold rdI rd_T35
  rw [Int.toNat_natCast]; exact (drop_some h).2.1 _
def keyI (pl : Bool) (x : SI) : List UInt8 × List UInt8 × Int := (L x.f0, L x.f1, if pl = true then x.f2 else 0)
theorem rsame_loop (a b : List SI) (pl : Bool) (ha : a.length ≤ 1048577) : ∀ (r q : List SI) (i : Nat), a.drop i = r → b.drop i = q → r.map (keyI pl) = q.map (keyI pl) → Ev (fun k => treadleref13_Same.l0 k a b pl i) true
  | [], q, i, h, hq, hk => by
    have := drop_none h
    exact Ev.step (fun k => treadleref13_Same.l0.eq_2 _ _ _ _ k) (Ev.ite_neg (by omega) (Ev.some_ rfl))
  | x :: r, [], i, h, hq, hk => by simp at hk
  | x :: r, y :: q, i, h, hq, hk => by
    obtain ⟨h1, _, h3⟩ := drop_some h
    obtain ⟨q1, _, q3⟩ := drop_some hq
    have hx := rdI_drop h
    have hy := rdI_drop hq
    rw [List.map_cons, List.map_cons, List.cons.injEq] at hk
    obtain ⟨hk1, hk2⟩ := hk
    unfold keyI at hk1
    rw [Prod.mk.injEq, Prod.mk.injEq] at hk1
    obtain ⟨k1, k2, k3⟩ := hk1
    have hw : wrap64 ((i : Int) + 1) = ((i + 1 : Nat) : Int) := wrap_succ (by omega)
    have hrec := rsame_loop a b pl ha r q (i + 1) h3 q3 hk2
    refine Ev.step (fun k => treadleref13_Same.l0.eq_2 _ _ _ _ k) (Ev.ite_pos (by omega) (Ev.ite_pos (by omega) (Ev.ite_pos (by omega) ?_)))
    have hx : rd_T35 a (i : Int) = x := hx
    have hy : rd_T35 b (i : Int) = y := hy
    rw [hx, hy, hw]
    refine Ev.ite_pos (by rw [toList_L, toList_L]; exact k1) (Ev.ite_pos (by rw [toList_L, toList_L]; exact k2) ?_)
    cases pl with
    | true => exact Ev.ite_pos rfl (Ev.ite_pos k3 hrec)
    | false => exact Ev.ite_neg (by simp) hrec
theorem rsame (a b : List SI) (pl : Bool) (ha : a.length ≤ 1048577) (h : a.map (keyI pl) = b.map (keyI pl)) : Ev (fun k => treadleref13_Same.f k a b pl) true := by
  unfold treadleref13_Same.f
  have hl : a.length = b.length := by have := congrArg List.length h; simpa using this
  exact Ev.ite_pos (by omega) (rsame_loop a b pl ha a b 0 rfl rfl h)
theorem lnames_loop (l : List SI) (hl : l.length ≤ 1048577) : ∀ (r : List SI) (i : Nat) (acc : List ByteArray), l.drop i = r → acc.length = i → Ev (fun k => scan_Names.l0 k acc l l.length i) (acc ++ r.map (·.f1))
  | [], i, acc, h, ha => by
    have := drop_none h
    exact Ev.step (fun k => scan_Names.l0.eq_2 _ _ _ _ k) (Ev.ite_neg (by omega) (Ev.some_ (by simp)))
  | x :: r, i, acc, h, ha => by
    obtain ⟨h1, _, h3⟩ := drop_some h
    have hx : rd_T35 l (i : Int) = x := rdI_drop h
    have hw : wrap64 ((i : Int) + 1) = ((i + 1 : Nat) : Int) := wrap_succ (by omega)
    refine Ev.step (fun k => scan_Names.l0.eq_2 _ _ _ _ k) (Ev.ite_pos (by omega) (Ev.ite_pos (by omega) (Ev.ite_pos (by omega) (Ev.ite_pos (by omega) ?_))))
    rw [hx, hw]
    refine (lnames_loop l hl r (i + 1) (acc ++ [x.f1]) h3 (by rw [List.length_append]; simp; omega)).eq ?_
    simp
theorem lnames (l : List SI) (hl : l.length ≤ 1048577) : Ev (fun k => scan_Names.f k l) (l.map (·.f1)) := by
  unfold scan_Names.f
  exact lnames_loop l hl l 0 [] rfl rfl
theorem lincludes (s : ByteArray) (hs : s.size ≤ 1048576) : Ev (fun k => scan_Includes.f k s) ((resF [] (foundT s)).1, (resF [] (foundT s)).2.2.1, (resF [] (foundT s)).2.2.2) := by
  unfold scan_Includes.f
  exact Ev.bind (lfound s hs) (Ev.some_ rfl)
theorem lhead (s : ByteArray) (hs : s.size ≤ 1048576) : Ev (fun k => scan_Head.f k s) (resF [] (foundT s)).2.1 := by
  unfold scan_Head.f
  exact Ev.bind (lfound s hs) (Ev.some_ rfl)
def aliveA : List UInt8 := [105, 110, 99, 108, 117, 100, 101, 32, 34, 97, 46, 109, 34, 32, 97, 115, 32, 97, 59, 32, 99, 111, 110, 115, 116]
def aliveB : List UInt8 := [105, 110, 99, 108, 117, 100, 101, 32, 34, 97, 34, 32, 97, 115, 32, 97, 59]
theorem aliveA_nums : (incs 26 aliveA 0).2.2 = (0, 0) ∧ (incs 26 aliveA 0).1.map (keyI true) = [([97, 46, 109], [97], 0)] := by decide +kernel
theorem aliveB_nums : (incs 18 aliveB 0).2 = (17, 0, 0) := by decide +kernel
theorem alive : Ev (fun k => treadlelaw13_alive.f k) true := by
  unfold treadlelaw13_alive.f
  have hA : foundT (mkB aliveA) = incs 26 aliveA 0 := by
    unfold foundT
    rw [if_neg (by decide)]; rfl
  have hB : foundT (mkB aliveB) = incs 18 aliveB 0 := by
    unfold foundT
    rw [if_neg (by decide)]; rfl
  have ha := lincludes (mkB aliveA) (by decide)
  have hb := lhead (mkB aliveB) (by decide)
  rw [hA] at ha
  rw [hB] at hb
  obtain ⟨n1, n2⟩ := aliveA_nums
  have n3 := aliveB_nums
  have hb' : Ev (fun k => scan_Head.f k (mkB aliveB)) 17 := hb.eq (by unfold resF; rw [n3]; rfl)
  generalize incs 26 aliveA 0 = X at *
  obtain ⟨l, e, c, d⟩ := X
  simp only [Prod.mk.injEq] at n1
  obtain ⟨rfl, rfl⟩ := n1
  have hr : resF [] (l, e, 0, 0) = (l, (e : Int), 0, 0) := by unfold resF; rw [if_neg (by simp)]; simp
  rw [hr] at ha
  match l, n2 with
  | [], n2 => simp at n2
  | x :: y :: r, n2 => simp at n2
  | [x], n2 =>
    simp only [List.map_cons, List.map_nil, List.cons.injEq, and_true, keyI, if_true, Prod.mk.injEq] at n2
    obtain ⟨m1, m2, m3⟩ := n2
    refine Ev.bind ha (Ev.ite_pos rfl (Ev.ite_pos rfl (Ev.ite_pos (by simp) (Ev.ite_pos ?_ ?_))))
    · show ((x.f0.toList == [97, 46, 109]) && ((x.f1.toList == [97]) && (x.f2 == 0))) = true
      rw [toList_L, toList_L, m1, m2, m3]; rfl
    · exact Ev.bind hb' (Ev.some_ rfl)
theorem incs_bd (l : List UInt8) : ∀ (f i : Nat), i ≤ l.length → (incs f l i).1.length ≤ l.length - i ∧ (incs f l i).2.1 ≤ l.length
  | 0, i, hi => ⟨by simp [incs], hi⟩
  | f + 1, i, hi => by
    unfold incs
    by_cases hb : begins l i = true
    · rw [if_pos hb]
      obtain ⟨e, p, q, hst⟩ : ∃ e p q : Nat, stepE l i = (e, p, q) := ⟨_, _, _, rfl⟩
      rw [hst]
      simp only
      by_cases he : e ≠ 0
      · rw [if_pos he]; exact ⟨by simp, by simp⟩
      · rw [if_neg he]
        have he : e = 0 := by omega
        subst he
        obtain ⟨q1, q2⟩ := stepE_ok hi hb (by rw [hst])
        rw [hst] at q1 q2
        simp only at q1 q2
        have ih := incs_bd l f q q2
        by_cases h2 : (incs f l q).2.2.1 ≠ 0
        · rw [if_pos h2]; exact ⟨by simp, by simp⟩
        · rw [if_neg h2]
          simp only [List.length_cons]
          omega
    · rw [if_neg hb]; exact ⟨by simp, hi⟩
theorem foundT_bd (s : ByteArray) : (foundT s).1.length ≤ 65536 ∧ (foundT s).2.1 ≤ s.size := by
  unfold foundT
  by_cases h : s.size > 65536
  · rw [if_pos h]; exact ⟨by simp, by simp⟩
  · rw [if_neg h]
    have := incs_bd (L s) (s.size + 1) 0 (by omega)
    rw [L_length] at this
    omega
theorem resF_len (acc : List SI) (x : List SI × Nat × Nat × Nat) : (resF acc x).1.length ≤ acc.length + x.1.length := by
  unfold resF
  split
  · simp
  · simp
theorem finds_loop (m : List SI) (hm : m.length ≤ 65536) : ∀ (r : List SI) (i : Nat), m.drop i = r → Ev (fun k => treadlelaw13_ScanFinds.l0 k m (m.map (·.f1)) (m.map (·.f1)).length i) true
  | [], i, h => by
    have := drop_none h
    exact Ev.step (fun k => treadlelaw13_ScanFinds.l0.eq_2 _ _ _ _ k) (Ev.ite_neg (by rw [List.length_map]; omega) (Ev.bind alive (Ev.some_ rfl)))
  | x :: r, i, h => by
    obtain ⟨h1, _, h3⟩ := drop_some h
    have hx : rd_T35 m (i : Int) = x := rdI_drop h
    have hw : wrap64 ((i : Int) + 1) = ((i + 1 : Nat) : Int) := wrap_succ (by omega)
    have hd : (m.map (·.f1)).drop i = x.f1 :: r.map (·.f1) := by rw [← List.map_drop, h]; rfl
    have hn := rdOf_drop hd ByteArray.empty
    refine Ev.step (fun k => treadlelaw13_ScanFinds.l0.eq_2 _ _ _ _ k) (Ev.ite_pos (by rw [List.length_map]; omega) (Ev.ite_pos (by omega) (Ev.ite_pos (by rw [List.length_map]; omega) (Ev.ite_pos (by omega) (Ev.ite_pos (by rw [hn, hx]) ?_)))))
    rw [hw]
    exact finds_loop m hm r (i + 1) h3
theorem ScanFinds (s : ByteArray) (hs : s.size ≤ 1048576) : Ev (fun k => treadlelaw13_ScanFinds.f k s) true := by
  unfold treadlelaw13_ScanFinds.f
  obtain ⟨b1, b2⟩ := foundT_bd s
  have hl := resF_len [] (foundT s)
  have hh := lhead s hs
  have hi := lincludes s hs
  have hr := rincs s hs
  generalize resF [] (foundT s) = X at *
  obtain ⟨m, e, c, d⟩ := X
  simp only at hi hh hl
  refine Ev.bind hi (Ev.bind hr (Ev.bind (rsame m m true (by simp at hl; omega) rfl) (Ev.ite_pos rfl (Ev.ite_pos rfl (Ev.ite_pos rfl (Ev.bind hh ?_))))))
  refine Ev.step (fun k => treadlelaw13_ScanFinds.j0.eq_2 _ _ _ k) (Ev.ite_neg (by simp) (Ev.bind (lnames m (by simp at hl; omega)) (Ev.ite_pos (by simp) ?_)))
  exact finds_loop m (by simp at hl; omega) m 0 rfl
end Go.Proofs.YtifachjefpcgcaaDoor.Pure
