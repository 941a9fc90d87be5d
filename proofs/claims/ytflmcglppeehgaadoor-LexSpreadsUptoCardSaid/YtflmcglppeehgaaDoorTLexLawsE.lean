import Derived.Test.YtflmcglppeehgaaDoorTLexSpr
namespace Go.Proofs.YtflmcglppeehgaaDoor.Pure
open Go.RowKit Go.Proofs.YtflmcglppeehgaaDoor.P Go.Proofs.YtflmcglppeehgaaDoor.Base Go.Proofs.YtflmcglppeehgaaDoorW.PrintWords Go.Proofs.YtflmcglppeehgaaDoorW.PrintLast Go.Proofs.YtflmcglppeehgaaDoorW.PrintMore
set_option linter.unusedVariables false
set_option linter.unusedSimpArgs false
theorem nums_len' (A : List UInt8) : (nums A).length = A.length := by unfold nums; simp
theorem rd_dropI {xs : List Int} {i : Nat} {x : Int} {r : List Int} (h : xs.drop i = x :: r) : rd xs (i : Int) = x := by
  unfold rd
  have e : ((i : Int)).toNat = i := by omega
  rw [e]; exact (drop_some h).2.1 _
theorem rfilled_loop (l : List Int) (hl : l.length ≤ 1048576) : ∀ (r : List Int) (i : Nat) (A : ByteArray), l.drop i = r → A.size ≤ 5 * i → i ≤ l.length →
    Ev (fun k => treadleref12_Filled.l0 k l A i) (mkB (L A ++ (r.flatMap fillB ++ [32])))
  | [], i, A, h, hA, hi => by
    have h1 := drop_none h
    refine Ev.step (fun k => treadleref12_Filled.l0.eq_2 _ _ _ k) (Ev.ite_neg (by omega) (Ev.ite_pos ?_ (Ev.some_ ?_)))
    · omega
    · apply L_inj; rw [L_append, L_mkB]; rfl
  | x :: r, i, A, h, hA, _ => by
    have hi := (drop_some h).1
    have hgo : ∀ ys : List UInt8, ys.length ≤ 5 → ys = fillB x → Ev (fun k => if A.size + ys.length ≤ 9223372036854775807 then treadleref12_Filled.l0 k l (A ++ mkB ys) (wrap64 ((i : Int) + 1)) else none) (mkB (L A ++ ((x :: r).flatMap fillB ++ [32]))) := fun ys hy he => by
      refine Ev.ite_pos (by omega) ?_
      rw [wrap_succ (by omega)]
      have hz : (A ++ mkB ys).size = A.size + ys.length := by rw [size_eq_L, L_append, L_mkB, List.length_append, L_length]
      refine (rfilled_loop l hl r (i + 1) (A ++ mkB ys) (drop_some h).2.2 (by rw [hz]; omega) (by omega)).eq ?_
      rw [L_append, L_mkB, he, List.flatMap_cons]; simp only [List.append_assoc]
    refine Ev.step (fun k => treadleref12_Filled.l0.eq_2 _ _ _ k) (Ev.ite_pos (by omega) (Ev.ite_pos (by omega) ?_))
    rw [rd_dropI h]
    by_cases c0 : Int.tmod x 6 = 0
    · exact Ev.ite_pos c0 (hgo [32] (by simp) (by unfold fillB; rw [if_pos c0]))
    refine Ev.ite_neg c0 ?_
    by_cases c1 : Int.tmod x 6 = 1
    · exact Ev.ite_pos c1 (hgo [9] (by simp) (by unfold fillB; rw [if_neg c0, if_pos c1]))
    refine Ev.ite_neg c1 ?_
    by_cases c2 : Int.tmod x 6 = 2
    · exact Ev.ite_pos c2 (hgo [10] (by simp) (by unfold fillB; rw [if_neg c0, if_neg c1, if_pos c2]))
    refine Ev.ite_neg c2 ?_
    by_cases c3 : Int.tmod x 6 = 3
    · exact Ev.ite_pos c3 (hgo [13] (by simp) (by unfold fillB; rw [if_neg c0, if_neg c1, if_neg c2, if_pos c3]))
    refine Ev.ite_neg c3 ?_
    by_cases c4 : Int.tmod x 6 = 4
    · exact Ev.ite_pos c4 (hgo [47, 47, 32, 120, 10] (by simp) (by unfold fillB; rw [if_neg c0, if_neg c1, if_neg c2, if_neg c3, if_pos c4]))
    refine Ev.ite_neg c4 ?_
    by_cases c5 : Int.tmod x 6 = 5
    · exact Ev.ite_pos c5 (hgo [47, 47, 34, 10] (by simp) (by unfold fillB; rw [if_neg c0, if_neg c1, if_neg c2, if_neg c3, if_neg c4, if_pos c5]))
    refine Ev.ite_neg c5 ?_
    rw [wrap_succ (by omega)]
    refine (rfilled_loop l hl r (i + 1) A (drop_some h).2.2 (by omega) (by omega)).eq ?_
    have : fillB x = [] := by unfold fillB; rw [if_neg c0, if_neg c1, if_neg c2, if_neg c3, if_neg c4, if_neg c5]
    rw [List.flatMap_cons, this]; rfl
theorem rfilled (l : List Int) (hl : l.length ≤ 1048576) : Ev (fun k => treadleref12_Filled.f k l) (mkB (fill l)) :=
  (rfilled_loop l hl l 0 (⟨#[]⟩ : ByteArray) rfl (by decide) (by omega)).eq rfl
theorem fillB_len (n : Int) : (fillB n).length ≤ 5 := by
  unfold fillB
  split
  · simp
  · split
    · simp
    · split
      · simp
      · split
        · simp
        · split
          · simp
          · split <;> simp
theorem fill_len (l : List Int) : (fill l).length ≤ 5 * l.length + 1 := by
  unfold fill
  rw [List.length_append]
  have : (l.flatMap fillB).length ≤ 5 * l.length := by
    induction l with
    | nil => simp
    | cons x r ih =>
      have := fillB_len x
      rw [List.flatMap_cons, List.length_append, List.length_cons]; omega
  simp only [List.length_cons, List.length_nil]; omega
def gapsG (gs : List (List Int)) (j : Nat) : List UInt8 := 32 :: (if gs.length = 0 then [] else fill (gs.getD (j % gs.length) []))
theorem gapsG_blank (gs : List (List Int)) (j : Nat) : ∃ t, gapsG gs j = 32 :: t := ⟨_, rfl⟩
theorem gapsG_gap (gs : List (List Int)) (j : Nat) (t : List UInt8) : gapL false (gapsG gs j ++ t) = (gapsG gs j).length + gapL false t := by
  unfold gapsG
  have h32 : ∀ u : List UInt8, gapL false (32 :: u) = 1 + gapL false u := fun u => by simp [gapL, isSp]
  rw [List.cons_append, h32, List.length_cons]
  split
  · simp only [List.nil_append, List.length_nil] <;> omega
  · rw [gap_fill]; omega
theorem alls_pos (l : List UInt8) : ∀ (f i : Nat), i ≤ l.length → ∀ x ∈ (alls f l i).1, ∃ a b : Nat, x.f1 = a ∧ x.f2 = b ∧ a ≤ b ∧ b ≤ l.length
  | 0, i, hi, x, hx => by cases hx
  | f + 1, i, hi, x, hx => by
    unfold alls at hx
    by_cases he : (nx l i).2.2.2 = 0
    · rw [if_pos he] at hx
      by_cases hk : (nx l i).1 = 0
      · rw [if_pos hk] at hx
        simp only [List.mem_singleton] at hx
        obtain ⟨e1, e2⟩ := nx_end l i he hk
        subst hx
        exact ⟨_, _, rfl, rfl, by omega, by omega⟩
      · rw [if_neg hk] at hx
        have hadv := nx_adv l i hi he hk
        rcases List.mem_cons.mp hx with hx | hx
        · obtain ⟨h2, h3, h4⟩ := nx_tok l i he hk
          subst hx
          exact ⟨_, _, rfl, rfl, by omega, hadv.2⟩
        · exact alls_pos l f _ hadv.2 x hx
    · rw [if_neg he] at hx; cases hx
theorem bytesOf_nums (s : ByteArray) : bytesOf s = nums (L s) := rfl
theorem rspread_loop (s : ByteArray) (hs : s.size ≤ 65536) (gs : List (List Int)) (hgl : gs.length ≤ 1048576) (hgs : ∀ g ∈ gs, g.length ≤ 1048576) (toks : List S24) (hT : toks.length ≤ 65537)
    (hP : ∀ x ∈ toks, ∃ a b : Nat, x.f1 = a ∧ x.f2 = b ∧ a ≤ b ∧ b ≤ (L s).length) : ∀ (r : List S24) (j : Nat) (A : List UInt8), toks.drop j = r → A.length ≤ 65536 →
    Ev (fun k => treadleref12_Spread.l0 k s gs toks (nums A) j) (if A.length + (outL (gapsG gs) (L s) j r).length ≤ 65536 then (mkB (A ++ outL (gapsG gs) (L s) j r), true) else (⟨#[]⟩, false))
  | [], j, A, h, hA => by
    have h1 := drop_none h
    refine Ev.step (fun k => treadleref12_Spread.l0.eq_2 _ _ _ _ _ k) (Ev.ite_neg (by omega) (Ev.some_ ?_))
    rw [strOfNums_nums]
    simp only [outL, List.length_nil, List.append_nil, Nat.add_zero]
    rw [if_pos hA]
  | x :: r, j, A, h, hA => by
    have hj := (drop_some h).1
    have hrd := rd_drop h
    obtain ⟨a, b, ha, hb, hab, hbl⟩ := hP x (List.mem_of_mem_drop (h ▸ List.mem_cons_self))
    rw [L_length] at hbl
    have hn := nums_len' A
    have hsx : slice24 (L s) x = ((L s).drop a).take (b - a) := by unfold slice24; rw [ha, hb]; simp
    have hsl : (slice24 (L s) x).length = b - a := by rw [hsx, List.length_take, List.length_drop, L_length]; omega
    have hext : L (s.extract a b) = slice24 (L s) x := by rw [L_extract, hsx]
    have hez : (s.extract a b).size = b - a := by rw [size_eq_L, hext, hsl]
    have ea : ((a : Int)).toNat = a := by omega
    have eb : ((b : Int)).toNat = b := by omega
    have hres : ∀ B : List UInt8, B = A ++ gapsG gs j → B.length ≤ 10000000 →
        Ev (fun k => if (nums B).length + (s.extract a b).size < 140737488355328 then ((some (nums B ++ bytesOf (s.extract a b) : List Int)).bind fun y => (if (y.length : Int) > 65536 then (some ((⟨#[]⟩ : ByteArray), false)) else (treadleref12_Spread.l0 k s gs toks y (wrap64 ((j : Int) + 1))))) else none)
          (if A.length + (outL (gapsG gs) (L s) j (x :: r)).length ≤ 65536 then (mkB (A ++ outL (gapsG gs) (L s) j (x :: r)), true) else (⟨#[]⟩, false)) := fun B hB hBl => by
      have e1 : nums B ++ bytesOf (s.extract a b) = nums (B ++ slice24 (L s) x) := by rw [bytesOf_nums, hext]; unfold nums; rw [List.map_append]
      have ol : (outL (gapsG gs) (L s) j (x :: r)) = gapsG gs j ++ (slice24 (L s) x ++ outL (gapsG gs) (L s) (j + 1) r) := rfl
      have ol2 : A ++ (outL (gapsG gs) (L s) j (x :: r)) = (B ++ slice24 (L s) x) ++ outL (gapsG gs) (L s) (j + 1) r := by rw [ol, hB]; simp only [List.append_assoc]
      have ol3 : A.length + (outL (gapsG gs) (L s) j (x :: r)).length = (B ++ slice24 (L s) x).length + (outL (gapsG gs) (L s) (j + 1) r).length := by rw [← List.length_append, ol2, List.length_append]
      rw [ol2, ol3, e1]
      refine Ev.ite_pos (by rw [nums_len', hez]; omega) (Ev.bind_now rfl ?_)
      rw [nums_len']
      by_cases hlen : (B ++ slice24 (L s) x).length ≤ 65536
      · refine Ev.ite_neg (by omega) ?_
        rw [wrap_succ (by omega)]
        exact rspread_loop s hs gs hgl hgs toks hT hP r (j + 1) _ (drop_some h).2.2 hlen
      · refine Ev.ite_pos (by omega) (Ev.some_ ?_)
        rw [if_neg (by omega)]
    have e32 : nums A ++ [32] = nums (A ++ [32]) := by unfold nums; rw [List.map_append]; rfl
    refine Ev.step (fun k => treadleref12_Spread.l0.eq_2 _ _ _ _ _ k) (Ev.ite_pos (by omega) (Ev.ite_pos (by rw [hn]; omega) (Ev.bind_now rfl ?_)))
    rw [hrd, ha, hb, e32, ea, eb]
    by_cases hg0 : gs.length = 0
    · refine Ev.ite_neg (by omega) (Ev.ite_pos (by omega) (Ev.ite_pos (by omega) (Ev.ite_pos (by omega) (Ev.ite_pos (by omega) ?_))))
      refine hres _ ?_ (by rw [List.length_append]; simp only [List.length_cons, List.length_nil]; omega)
      unfold gapsG; rw [if_pos hg0]
    · have hm : Int.tmod (j : Int) (gs.length : Int) = ((j % gs.length : Nat) : Int) := by
        rw [Int.tmod_eq_emod_of_nonneg (by omega)]; rfl
      have hml : j % gs.length < gs.length := Nat.mod_lt _ (by omega)
      rw [hm]
      have hrl : rd_L4 gs ((j % gs.length : Nat) : Int) = gs.getD (j % gs.length) [] := by
        unfold rd_L4; rw [Int.toNat_natCast]
      have hmem : gs.getD (j % gs.length) [] ∈ gs := by
        rw [List.getD_eq_getElem?_getD, List.getElem?_eq_getElem hml]; exact List.getElem_mem hml
      have hfl := fill_len (gs.getD (j % gs.length) [])
      have hfz := hgs _ hmem
      rw [hrl]
      refine Ev.ite_pos (by omega) (Ev.ite_neg (by omega) (Ev.ite_pos (by omega) (Ev.ite_pos (by omega) (Ev.bind (rfilled _ hfz) ?_))))
      have hfs : (mkB (fill (gs.getD (j % gs.length) []))).size = (fill (gs.getD (j % gs.length) [])).length := by rw [size_eq_L, L_mkB]
      have e2 : nums (A ++ [32]) ++ bytesOf (mkB (fill (gs.getD (j % gs.length) []))) = nums (A ++ gapsG gs j) := by
        rw [bytesOf_nums, L_mkB]; unfold gapsG; rw [if_neg hg0]; unfold nums; simp
      rw [e2]
      refine Ev.ite_pos (by rw [nums_len', hfs, List.length_append]; simp only [List.length_cons, List.length_nil]; omega) (Ev.bind_now rfl ?_)
      refine Ev.ite_pos (by omega) (Ev.ite_pos (by omega) (Ev.ite_pos (by omega) (Ev.ite_pos (by omega) ?_)))
      refine hres _ rfl ?_
      unfold gapsG; rw [if_neg hg0, List.length_append, List.length_cons]; omega
theorem relL_len {l out : List UInt8} : ∀ {x y : List S24}, RelL l out x y → x.length = y.length
  | [], [], _ => rfl
  | x :: r, y :: s, h => by rw [List.length_cons, List.length_cons, relL_len h.2]
theorem spreads_loop (s out : ByteArray) (hs : s.size ≤ 65536) (ho : out.size ≤ 65536) (T U : List S24) (hT : T.length ≤ 65537) : ∀ (r r' : List S24) (j : Nat), T.drop j = r → U.drop j = r' → RelL (L s) (L out) r r' →
    Ev (fun k => treadlelaw12_LexSpreads.l0 k s out T U j) true
  | [], [], j, h, h', hr => by
    have := drop_none h
    exact Ev.step (fun k => treadlelaw12_LexSpreads.l0.eq_2 _ _ _ _ _ k) (Ev.ite_neg (by omega) (Ev.bind awake (Ev.some_ rfl)))
  | x :: r, y :: r', j, h, h', hr => by
    obtain ⟨⟨e0, a, b, a', b', e1, e2, e3, e4, l1, l2, l3, l4, e5⟩, hr⟩ := hr
    have hj := (drop_some h).1
    have hj' := (drop_some h').1
    have hx := rd_drop h
    have hy := rd_drop h'
    rw [L_length] at l2 l4
    refine Ev.step (fun k => treadlelaw12_LexSpreads.l0.eq_2 _ _ _ _ _ k) (Ev.ite_pos (by omega) (Ev.ite_pos (by omega) (Ev.ite_pos (by omega) ?_)))
    rw [hx, hy, e1, e2, e3, e4]
    have ea : ((a : Int)).toNat = a := by omega
    have eb : ((b : Int)).toNat = b := by omega
    have ea' : ((a' : Int)).toNat = a' := by omega
    have eb' : ((b' : Int)).toNat = b' := by omega
    rw [ea, eb, ea', eb', wrap_succ (by omega)]
    refine Ev.ite_pos e0 (Ev.ite_pos (by omega) (Ev.ite_pos (by omega) (Ev.ite_pos (by omega) (Ev.ite_pos (by omega) (Ev.ite_pos (by omega) (Ev.ite_pos (by omega) (Ev.ite_pos ?_ ?_)))))))
    · rw [toList_L, toList_L, L_extract, L_extract]; exact e5
    · exact spreads_loop s out hs ho T U hT r r' (j + 1) (drop_some h).2.2 (drop_some h').2.2 hr
theorem LexSpreads (s : ByteArray) (gs : List (List Int)) (hs : s.size ≤ 1048576) (hgl : gs.length ≤ 1048576) (hgs : ∀ g ∈ gs, g.length ≤ 1048576) : Ev (fun k => treadlelaw12_LexSpreads.f k s gs) true := by
  unfold treadlelaw12_LexSpreads.f
  have hr := rall s hs
  have hl := lall s hs
  obtain ⟨h1, h2⟩ := allT_len s hs
  have hno : ∀ R : ByteArray × Bool, R.2 = false → Ev (fun k => treadleref12_Spread.f k s gs) R → Ev (fun k => (treadleref12_Spread.f k s gs).bind fun bt229 => ((lex_All.f k s).bind fun bt231 => (if bt229.2 = true then ((lex_All.f k bt229.1).bind fun bt238 => (if (!(bt231.2.1 == 0) || (!(bt231.2.2 == 0))) = true then (treadlelaw12_LexSpreads.j0 k s bt229.1 bt231.1 bt238.1 true) else (if (!(bt238.2.1 == 0) || (!(bt238.2.2 == 0))) = true then (treadlelaw12_LexSpreads.j0 k s bt229.1 bt231.1 bt238.1 true) else (treadlelaw12_LexSpreads.j0 k s bt229.1 bt231.1 bt238.1 ((bt231.1.length : Int) != (bt238.1.length : Int)))))) else ((treadlelaw12_awake.f k).bind fun t237 => (some t237))))) true := fun R h0 hR =>
    Ev.bind hR (Ev.bind hl (Ev.ite_neg (by rw [h0]; simp) (Ev.bind awake (Ev.some_ rfl))))
  by_cases hw : (allT s).2.1 = 0
  · have hp := h2 hw
    have hz : ¬ s.size > 65536 := by
      intro hz; unfold allT at hw; rw [if_pos hz] at hw; cases hw
    have ea : allT s = alls (s.size + 1) (L s) 0 := by unfold allT; rw [if_neg hz]
    have hS : Ev (fun k => treadleref12_Spread.f k s gs) (if ([] : List UInt8).length + (outL (gapsG gs) (L s) 0 (allT s).1).length ≤ 65536 then (mkB ([] ++ outL (gapsG gs) (L s) 0 (allT s).1), true) else (⟨#[]⟩, false)) := by
      unfold treadleref12_Spread.f
      refine Ev.bind hr (Ev.ite_neg ?_ ?_)
      · simp [resR, hw, hp]
      · have := rspread_loop s (by omega) gs hgl hgs (allT s).1 h1 (by rw [ea]; exact alls_pos (L s) _ 0 (by omega)) (allT s).1 0 [] rfl (by simp)
        unfold resR
        simp only [List.nil_append]
        exact this
    obtain ⟨O, hO⟩ : ∃ O, outL (gapsG gs) (L s) 0 (allT s).1 = O := ⟨_, rfl⟩
    rw [hO] at hS
    by_cases hlen : ([] : List UInt8).length + O.length ≤ 65536
    · rw [if_pos hlen, List.nil_append] at hS
      simp only [List.length_nil, Nat.zero_add] at hlen
      have hoz0 : (mkB O).size = O.length := by rw [size_eq_L, L_mkB]
      have hoz : (mkB O).size ≤ 65536 := by omega
      have hlo := lall (mkB O) (by omega)
      have eo : allT (mkB O) = alls ((mkB O).size + 1) O 0 := by
        unfold allT; rw [if_neg (by omega), L_mkB]
      obtain ⟨q1, q2⟩ := spread_all (gapsG gs) (gapsG_blank gs) (gapsG_gap gs) (L s) O (s.size + 1) 0 0 [] ((mkB O).size + 1) (by omega) (by rw [← ea]; exact hw) (by omega) (by rw [← ea, List.nil_append]; exact hO.symm) (by rw [L_length]; omega) (by rw [hoz0]; simp only [List.length_nil]; omega)
      simp only [List.length_nil] at q1 q2
      rw [← eo] at q1 q2
      rw [← ea] at q2
      refine Ev.bind hS (Ev.bind hl (Ev.ite_pos rfl (Ev.bind hlo ?_)))
      unfold resL
      rw [if_pos hw, if_pos q1]
      simp only [List.nil_append]
      refine Ev.ite_neg (by decide) (Ev.ite_neg (by decide) ?_)
      have hll := relL_len q2
      have e : (((allT s).1.length : Int) != ((allT (mkB O)).1.length : Int)) = false := by rw [bne_eq_false_iff_eq]; omega
      rw [e]
      refine Ev.step (fun k => treadlelaw12_LexSpreads.j0.eq_2 _ _ _ _ _ k) (Ev.ite_neg (by simp) ?_)
      exact spreads_loop s _ (by omega) hoz _ _ h1 _ _ 0 rfl rfl (by rw [L_mkB]; exact q2)
    · rw [if_neg hlen] at hS
      exact hno _ rfl hS
  · refine hno (⟨#[]⟩, false) rfl ?_
    unfold treadleref12_Spread.f
    refine Ev.bind hr (Ev.ite_pos ?_ (Ev.some_ rfl))
    unfold resR
    simp; omega
end Go.Proofs.YtflmcglppeehgaaDoor.Pure
