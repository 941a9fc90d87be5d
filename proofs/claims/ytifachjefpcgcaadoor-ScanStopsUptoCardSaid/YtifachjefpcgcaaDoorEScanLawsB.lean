import Derived.Test.YtifachjefpcgcaaDoorEScanLawsA
namespace Go.Proofs.YtifachjefpcgcaaDoor.Pure
open Go.RowKit Go.Proofs.YtifachjefpcgcaaDoor.P Go.Proofs.YtifachjefpcgcaaDoor.Base Go.Proofs.YtifachjefpcgcaaDoorW.PrintWords Go.Proofs.YtifachjefpcgcaaDoorW.PrintLast Go.Proofs.YtifachjefpcgcaaDoorW.PrintMore
set_option linter.unusedVariables false
set_option linter.unusedSimpArgs false
def putB (x : SI) : List UInt8 := [105, 110, 99, 108, 117, 100, 101, 32] ++ L (quoteR x.f0).1 ++ [32, 97, 115, 32] ++ L x.f1 ++ [59, 10]
def okX (x : SI) : Bool := decide ((quoteR x.f0).2 = 0) && (nameOk (L x.f1) && !decide (L x.f1 ∈ keyTexts))
def putAll : List SI → List UInt8 → Option (List UInt8)
  | [], A => some A
  | x :: r, A => if okX x = true then putAll r (if A.length ≤ 65536 then A ++ putB x else A) else none
def withT (v : List UInt8) (l : List SI) (A : List UInt8) : ByteArray × Int := match putAll l A with
  | none => (⟨#[]⟩, 1)
  | some B => if (B ++ v).length > 65536 then (⟨#[]⟩, 3) else (mkB (B ++ v), 0)
def withR (s : ByteArray) (l : List SI) : ByteArray × Int :=
  if (foundT s).2.2.1 ≠ 0 then (⟨#[]⟩, ((foundT s).2.2.1 : Nat)) else withT ((L s).drop (foundT s).2.1) l []
theorem enc_all (t : List UInt8) : (t.flatMap enc).length ≤ 4 * t.length := by
  induction t with
  | nil => simp
  | cons c r ih => have := enc_len c; rw [List.flatMap_cons, List.length_append, List.length_cons]; omega
theorem quote_len (x : ByteArray) : (quoteR x).1.size ≤ 16386 := by
  unfold quoteR
  split
  · exact Nat.zero_le _
  · rename_i h
    rw [size_eq_L, L_mkB]
    have := enc_all (L x)
    rw [L_length] at this
    simp only [List.length_cons, List.length_append, List.length_nil]; omega
theorem name_len {l : List UInt8} (h : nameOk l = true) : 1 ≤ l.length ∧ l.length ≤ 32 := by
  cases l with
  | nil => cases h
  | cons c r =>
    unfold nameOk at h
    simp only [Bool.and_eq_true, decide_eq_true_eq] at h
    exact ⟨by simp, h.1.1⟩
theorem ok_name {x : SI} (h : okX x = true) : x.f1.size ≤ 32 := by
  unfold okX at h
  simp only [Bool.and_eq_true] at h
  have := name_len h.2.1
  rw [L_length] at this; exact this.2
theorem putB_len {x : SI} (h : okX x = true) : (putB x).length ≤ 17000 := by
  have h1 := quote_len x.f0
  have h2 := ok_name h
  unfold putB
  simp only [List.length_append, L_length, List.length_cons, List.length_nil]; omega
theorem L_put (x : SI) : L (((((⟨#[105, 110, 99, 108, 117, 100, 101, 32]⟩ : ByteArray) ++ (quoteR x.f0).1) ++ (⟨#[32, 97, 115, 32]⟩ : ByteArray)) ++ x.f1) ++ (⟨#[59, 10]⟩ : ByteArray)) = putB x := by
  rw [L_append, L_append, L_append, L_append]; rfl
theorem bt_nums (s : ByteArray) : bytesOf s = nums (L s) := rfl
theorem lwith_loop (s : ByteArray) (e : Nat) (he : e ≤ s.size) (hs : s.size ≤ 1048576) (l : List SI) (hl : l.length ≤ 1048576) (hz : ∀ x ∈ l, x.f0.size ≤ 1048576 ∧ x.f1.size ≤ 1048576) :
    ∀ (r : List SI) (i : Nat) (A : List UInt8), l.drop i = r → A.length ≤ 131072 → Ev (fun k => scan_With.l0 k s e (nums A) l l.length i) (withT ((L s).drop e) r A)
  | [], i, A, h, hA => by
    have := drop_none h
    refine Ev.step (fun k => scan_With.l0.eq_2 _ _ _ _ _ _ k) (Ev.ite_neg (by omega) (Ev.ite_pos (by omega) (Ev.ite_pos (by omega) ?_)))
    have hx : L (s.extract (e : Int).toNat s.size) = (L s).drop e := by
      rw [L_extract, Int.toNat_natCast]
      exact List.take_of_length_le (by rw [List.length_drop, L_length]; omega)
    have hxs : (s.extract (e : Int).toNat s.size).size ≤ 1048576 := by rw [size_eq_L, hx, List.length_drop, L_length]; omega
    refine Ev.ite_pos (by rw [nums_len]; omega) (Ev.bind_now rfl ?_)
    rw [bt_nums, nums_app, hx]
    unfold withT putAll
    simp only
    by_cases hb : (A ++ (L s).drop e).length > 65536
    · exact Ev.ite_pos (by rw [nums_len]; omega) (Ev.some_ (by rw [if_pos hb]))
    · exact Ev.ite_neg (by rw [nums_len]; omega) (Ev.some_ (by rw [if_neg hb, strOfNums_nums]))
  | x :: r, i, A, h, hA => by
    obtain ⟨h1, _, h3⟩ := drop_some h
    have hx : rd_T35 l (i : Int) = x := rdI_drop h
    have hw : wrap64 ((i : Int) + 1) = ((i + 1 : Nat) : Int) := wrap_succ (by omega)
    have hm : x ∈ l := by have := List.mem_of_mem_drop (show x ∈ l.drop i by rw [h]; simp); exact this
    obtain ⟨z1, z2⟩ := hz x hm
    have jt : ∀ (q a b : ByteArray) (c : Int) (B : Bool), B = true → Ev (fun k => scan_With.j1 k s e (nums A) q l l.length i B a b c) (⟨#[]⟩, 1) := fun q a b c B hB =>
      Ev.step (fun k => scan_With.j1.eq_2 _ _ _ _ _ _ _ _ _ _ _ k) (Ev.ite_pos hB (Ev.some_ rfl))
    refine Ev.step (fun k => scan_With.l0.eq_2 _ _ _ _ _ _ k) (Ev.ite_pos (by omega) (Ev.ite_pos (by omega) (Ev.ite_pos (by omega) ?_)))
    rw [hx]
    refine Ev.bind (lquote x.f0 z1) ?_
    unfold withT putAll
    by_cases hq : (quoteR x.f0).2 = 0
    · refine Ev.ite_pos hq (Ev.bind (lword x.f1 z2) ?_)
      by_cases hn : (nameOk (L x.f1) && !decide (L x.f1 ∈ keyTexts)) = true
      · have hok : okX x = true := by unfold okX; rw [decide_eq_true hq, hn]; rfl
        rw [if_pos hok]
        refine Ev.step (fun k => scan_With.j1.eq_2 _ _ _ _ _ _ _ _ _ _ _ k) (Ev.ite_neg (by rw [hn]; simp) ?_)
        have hql := quote_len x.f0
        have hnl := ok_name hok
        have hpl := putB_len hok
        by_cases h6 : A.length ≤ 65536
        · have hrec := lwith_loop s e he hs l hl hz r (i + 1) (A ++ putB x) h3 (by rw [List.length_append]; omega)
          rw [if_pos h6]
          have hps : (((((⟨#[105, 110, 99, 108, 117, 100, 101, 32]⟩ : ByteArray) ++ (quoteR x.f0).1) ++ (⟨#[32, 97, 115, 32]⟩ : ByteArray)) ++ x.f1) ++ (⟨#[59, 10]⟩ : ByteArray)).size ≤ 17000 := by rw [size_eq_L, L_put]; exact hpl
          have k1 : ((⟨#[105, 110, 99, 108, 117, 100, 101, 32]⟩ : ByteArray) ++ (quoteR x.f0).1).size = 8 + (quoteR x.f0).1.size := by rw [ByteArray.size_append]; rfl
          have k2 : (((⟨#[105, 110, 99, 108, 117, 100, 101, 32]⟩ : ByteArray) ++ (quoteR x.f0).1) ++ (⟨#[32, 97, 115, 32]⟩ : ByteArray)).size = 8 + (quoteR x.f0).1.size + 4 := by rw [ByteArray.size_append, k1]; rfl
          have k3 : ((((⟨#[105, 110, 99, 108, 117, 100, 101, 32]⟩ : ByteArray) ++ (quoteR x.f0).1) ++ (⟨#[32, 97, 115, 32]⟩ : ByteArray)) ++ x.f1).size = 8 + (quoteR x.f0).1.size + 4 + x.f1.size := by rw [ByteArray.size_append, k2]
          refine Ev.ite_pos (by rw [nums_len]; omega) (Ev.ite_pos (by omega) (Ev.ite_pos (by omega) (Ev.ite_pos (by omega) (Ev.ite_pos (by omega) (Ev.ite_pos (by rw [nums_len]; omega) ?_)))))
          rw [bt_nums, L_put, nums_app, hw]
          exact hrec
        · have hrec := lwith_loop s e he hs l hl hz r (i + 1) A h3 hA
          rw [if_neg h6]
          refine Ev.ite_neg (by rw [nums_len]; omega) ?_
          rw [hw]; exact hrec
      · have hok : ¬ okX x = true := by unfold okX; rw [decide_eq_true hq]; simpa using hn
        rw [if_neg hok]
        exact jt _ _ _ _ _ (by rw [Bool.not_eq_true] at hn; rw [hn]; rfl)
    · have hok : ¬ okX x = true := by unfold okX; rw [decide_eq_false hq]; simp
      rw [if_neg hok]
      exact Ev.ite_neg hq (jt _ _ _ _ _ rfl)
theorem lwith (s : ByteArray) (hs : s.size ≤ 1048576) (l : List SI) (hl : l.length ≤ 1048576) (hz : ∀ x ∈ l, x.f0.size ≤ 1048576 ∧ x.f1.size ≤ 1048576) : Ev (fun k => scan_With.f k s l) (withR s l) := by
  unfold scan_With.f withR
  refine Ev.bind (lfound s hs) ?_
  obtain ⟨_, b2⟩ := foundT_bd s
  generalize foundT s = X at *
  obtain ⟨m, e, c, d⟩ := X
  unfold resF
  simp only at b2 ⊢
  by_cases hc : c ≠ 0
  · rw [if_pos hc, if_pos hc]
    have : ((c : Int) == 0) = false := beq_eq_false_iff_ne.mpr (by omega)
    refine Ev.ite_pos ?_ (Ev.some_ rfl)
    simp only
    rw [this]; rfl
  · rw [if_neg hc, if_neg hc]
    exact Ev.ite_neg (by simp) (lwith_loop s e b2 hs l hl hz l 0 [] rfl (by simp))
theorem putAll_bd : ∀ (l : List SI) (A B : List UInt8), putAll l A = some B → B.length ≤ 65536 → B = A ++ l.flatMap putB ∧ ∀ x ∈ l, okX x = true
  | [], A, B, h, hB => by
    unfold putAll at h; injection h with h; subst h
    exact ⟨by simp, fun x hx => by cases hx⟩
  | x :: r, A, B, h, hB => by
    unfold putAll at h
    by_cases ho : okX x = true
    · rw [if_pos ho] at h
      by_cases hA : A.length ≤ 65536
      · rw [if_pos hA] at h
        obtain ⟨h1, h2⟩ := putAll_bd r _ B h hB
        refine ⟨by rw [h1, List.flatMap_cons, List.append_assoc], fun y hy => ?_⟩
        cases List.mem_cons.1 hy with
        | inl e => rw [e]; exact ho
        | inr e => exact h2 y e
      · rw [if_neg hA] at h
        obtain ⟨h1, h2⟩ := putAll_bd r _ B h hB
        have : A.length ≤ B.length := by rw [h1]; simp
        omega
    · rw [if_neg ho] at h; cases h
end Go.Proofs.YtifachjefpcgcaaDoor.Pure
