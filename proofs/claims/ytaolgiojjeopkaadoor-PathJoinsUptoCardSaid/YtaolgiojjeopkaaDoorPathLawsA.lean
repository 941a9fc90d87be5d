/- Layer 4, path: the pure laws PathOf, PathJoins, PathNames, PathOwn, PathCommons, PathCleans. -/
import Derived.Test.YtaolgiojjeopkaaDoorPathJoin
namespace Go.Proofs.YtaolgiojjeopkaaDoor.Pure
open Go.RowKit Go.Proofs.YtaolgiojjeopkaaDoor.P Go.Proofs.YtaolgiojjeopkaaDoor.Base Go.Proofs.YtaolgiojjeopkaaDoorW.PrintWords Go.Proofs.YtaolgiojjeopkaaDoorW.PrintLast Go.Proofs.YtaolgiojjeopkaaDoorW.PrintMore
set_option linter.unusedVariables false
set_option linter.unusedSimpArgs false

theorem twin_ (l : List ByteArray) (h : l.length < 8796093022208) : treadlelaw04_twin.f l = some l := by
  unfold treadlelaw04_twin.f
  simp only [Option.bind_some, List.length_nil, Nat.zero_add, List.nil_append]
  rw [if_pos h]
theorem same_loop (a b : List ByteArray) (hl : a.length = b.length) (ha : a.length ≤ 8796093022208) : ∀ (r q : List ByteArray) (i : Nat), a.drop i = r → b.drop i = q →
    Ev (fun k => treadleref04_Same.l0 k a b i) (decide (r = q))
  | [], q, i, h, h' => by
    have hi := drop_none h
    have : q = [] := by rw [← h']; exact List.drop_eq_nil_of_le (by omega)
    subst this
    refine Ev.step (fun k => treadleref04_Same.l0.eq_2 _ _ _ k) ?_
    exact Ev.ite_neg (by omega) (Ev.some_ rfl)
  | x :: r, q, i, h, h' => by
    obtain ⟨h1, _, h3⟩ := drop_some h
    cases q with
    | nil => have := drop_none h'; omega
    | cons y q =>
      obtain ⟨g1, _, g3⟩ := drop_some h'
      refine Ev.step (fun k => treadleref04_Same.l0.eq_2 _ _ _ k) ?_
      refine Ev.ite_pos (by omega) (Ev.ite_pos (by omega) (Ev.ite_pos (by omega) ?_))
      rw [rdOf_drop h, rdOf_drop h', wrap_succ (by omega)]
      by_cases e : x = y
      · subst e
        refine Ev.ite_pos rfl ((same_loop a b hl ha r q (i + 1) h3 g3).eq ?_)
        simp
      · refine Ev.ite_neg (fun z => e (toList_inj.mp z)) (Ev.some_ ?_)
        simp [e]
theorem same (a b : List ByteArray) (ha : a.length ≤ 8796093022208) : Ev (fun k => treadleref04_Same.f k a b) (decide (a = b)) := by
  unfold treadleref04_Same.f
  by_cases h : (a.length : Int) = (b.length : Int)
  · exact Ev.ite_pos h (same_loop a b (by omega) ha a b 0 rfl rfl)
  · refine Ev.ite_neg h (Ev.some_ ?_)
    have : a ≠ b := fun e => h (by rw [e])
    simp [this]
theorem same_refl (a : List ByteArray) (ha : a.length ≤ 8796093022208) : Ev (fun k => treadleref04_Same.f k a a) true := (same a a ha).eq (by simp)

theorem PathOf_any (l : List ByteArray) (hl : l.length ≤ 8796093022207) : Ev (fun k => treadlelaw04_PathOf.f k l) true := by
  unfold treadlelaw04_PathOf.f
  refine Ev.bind_now (twin_ l (by omega)) (Ev.bind (pof l hl) (Ev.bind (rof l hl) ?_))
  refine Ev.ite_pos rfl (Ev.bind_now rfl (Ev.ite_pos rfl (Ev.bind (same_refl l (by omega)) (Ev.ite_pos rfl (Ev.bind awake (Ev.some_ rfl))))))
theorem PathOf (l : List ByteArray) (hl : l.length ≤ 1048576) : Ev (fun k => treadlelaw04_PathOf.f k l) true := PathOf_any l (by omega)
theorem PathJoins (base : ByteArray) (more : List ByteArray) (hb : base.size ≤ 1048576) (hm : more.length ≤ 1048576) : Ev (fun k => treadlelaw04_PathJoins.f k base more) true := by
  unfold treadlelaw04_PathJoins.f
  refine Ev.bind_now (twin_ more (by omega)) (Ev.bind (pjoin base more hb hm) (Ev.bind (rjoin base more hb hm) ?_))
  refine Ev.ite_pos rfl (Ev.bind_now rfl (Ev.ite_pos rfl (Ev.bind (same_refl more (by omega)) (Ev.ite_pos rfl (Ev.bind awake (Ev.some_ rfl))))))

/-! ### PathNames -/
theorem pcheck (s : ByteArray) (hs : s.size ≤ 549755813888) : Ev (fun k => path_Check.f k s) (match namesOf s with | some _ => 0 | none => 45) := by
  unfold path_Check.f
  refine Ev.bind (pnames s hs) (Ev.some_ ?_)
  cases namesOf s <;> rfl
theorem PathNames (s : ByteArray) (hs : s.size ≤ 1048576) : Ev (fun k => treadlelaw04_PathNames.f k s) true := by
  unfold treadlelaw04_PathNames.f
  refine Ev.bind (pnames s (by omega)) (Ev.bind (rnames s (by omega)) (Ev.bind (pname s) (Ev.bind (rname s) ?_)))
  refine Ev.ite_neg (by cases nm s <;> decide) (Ev.bind (pcheck s (by omega)) ?_)
  refine Ev.ite_neg (by cases namesOf s <;> simp) (Ev.ite_neg (by cases namesOf s <;> simp) ?_)
  have hl : ∀ l, namesOf s = some l → l.length ≤ 32 := fun l h => (namesOf_nm h).2
  refine Ev.bind (a := true) ?_ ?_
  · cases hn : namesOf s with
    | none => exact same_refl [] (by simp)
    | some l => exact same_refl l (by have := hl l hn; omega)
  refine Ev.step (fun k => treadlelaw04_PathNames.j0.eq_2 _ _ _ _ k) ?_
  refine Ev.ite_neg (by decide) (Ev.bind (pname s) ?_)
  have fin : Ev (fun k => (treadlelaw04_awake.f k).bind fun t => some t) true := Ev.bind awake (Ev.some_ rfl)
  by_cases hnm : nm s = true
  · refine Ev.ite_pos (by simp [hnm]) ?_
    cases hn : namesOf s with
    | some l => exact Ev.ite_pos rfl fin
    | none =>
      refine Ev.ite_neg (by simp) (Ev.bind (pcheck s (by omega)) ?_)
      rw [hn]
      exact Ev.ite_pos rfl (Ev.ite_pos rfl fin)
  · refine Ev.ite_neg (by simp [hnm]) (Ev.bind (pname s) (Ev.ite_pos (by simp [hnm]) ?_))
    cases hn : namesOf s with
    | some l => exact Ev.ite_pos rfl fin
    | none =>
      refine Ev.ite_neg (by simp) (Ev.bind (pcheck s (by omega)) ?_)
      rw [hn]
      exact Ev.ite_pos rfl (Ev.ite_pos rfl fin)

/-! ### PathOwn -/
theorem own_fill (s : ByteArray) (want : List ByteArray) (hw : want.length ≤ 32) (r : Nat) (rest : Ev (fun k => treadlelaw04_PathOwn.l0 k s want ((r + 1 : Nat) : Int)) true) (hr : r < 2) : ∀ (d i : Nat) (l : List ByteArray), l.length = want.length → i + d = l.length →
    Ev (fun k => treadlelaw04_PathOwn.l1 k s want r l i) true
  | 0, i, l, hl, hi => by
    refine Ev.step (fun k => treadlelaw04_PathOwn.l1.eq_2 _ _ _ _ _ k) ?_
    refine Ev.ite_neg (by omega) (Ev.bind_now rfl ?_)
    refine Ev.ite_pos (by simp; omega) (Ev.ite_pos ?_ ?_)
    · rw [wrap_id (by omega) (by omega)]; simp; omega
    · rw [wrap_succ (by omega)]; exact rest
  | d + 1, i, l, hl, hi => by
    refine Ev.step (fun k => treadlelaw04_PathOwn.l1.eq_2 _ _ _ _ _ k) ?_
    refine Ev.ite_pos (by omega) (Ev.ite_pos (by omega) ?_)
    rw [wrap_succ (by omega)]
    exact own_fill s want hw r rest hr d (i + 1) _ (by simpa using hl) (by simp; omega)
theorem own_round (s want : List ByteArray) (src : ByteArray) (e : Int) (hw : want.length ≤ 32) (hP : Ev (fun k => path_Names.f k src) (want, e)) : ∀ (d r : Nat), r + d = 2 →
    Ev (fun k => treadlelaw04_PathOwn.l0 k src want r) true
  | 0, r, h => by
    refine Ev.step (fun k => treadlelaw04_PathOwn.l0.eq_2 _ _ _ k) ?_
    exact Ev.ite_neg (by omega) (Ev.bind awake (Ev.some_ rfl))
  | d + 1, r, h => by
    refine Ev.step (fun k => treadlelaw04_PathOwn.l0.eq_2 _ _ _ k) ?_
    refine Ev.ite_pos (by omega) (Ev.bind hP ?_)
    refine Ev.bind (same_refl want (by omega)) (Ev.ite_pos rfl ?_)
    exact own_fill src want hw r (own_round s want src e hw hP d (r + 1) (by omega)) (by omega) _ 0 want rfl (Nat.zero_add _)
theorem PathOwn (s : ByteArray) (hs : s.size ≤ 1048576) : Ev (fun k => treadlelaw04_PathOwn.f k s) true := by
  unfold treadlelaw04_PathOwn.f
  have h1 := pnames s (by omega)
  refine Ev.bind (rnames s (by omega)) ?_
  cases hn : namesOf s with
  | none => rw [hn] at h1; exact own_round [] [] s 45 (by simp) h1 2 0 rfl
  | some l => rw [hn] at h1; exact own_round [] l s 0 (namesOf_nm hn).2 h1 2 0 rfl

/-! ### PathCommons -/
def com : List ByteArray → List ByteArray → Nat
  | x :: a, y :: b => if x = y then com a b + 1 else 0
  | _, _ => 0
theorem com_le (a b : List ByteArray) : com a b ≤ a.length ∧ com a b ≤ b.length := by
  induction a generalizing b with
  | nil => simp [com]
  | cons x a ih =>
    cases b with
    | nil => simp [com]
    | cons y b =>
      unfold com
      have := ih b
      split <;> simp <;> omega
theorem com_self (a : List ByteArray) : com a a = a.length := by
  induction a with
  | nil => rfl
  | cons x a ih => simp [com, ih]
theorem pshared_loop (a b : List ByteArray) (ha : a.length ≤ 1099511627776) : ∀ (r q : List ByteArray) (i : Nat), a.drop i = r → b.drop i = q → i ≤ a.length →
    Ev (fun k => path_shared.l0 k a b i) (((i + com r q : Nat)) : Int)
  | [], q, i, h, h', hi => by
    have := drop_none h
    refine Ev.step (fun k => path_shared.l0.eq_2 _ _ _ k) ?_
    exact Ev.ite_neg (by omega) (Ev.some_ (by simp [com]))
  | x :: r, [], i, h, h', hi => by
    have h1 := (drop_some h).1
    have := drop_none h'
    refine Ev.step (fun k => path_shared.l0.eq_2 _ _ _ k) ?_
    exact Ev.ite_pos (by omega) (Ev.ite_neg (by omega) (Ev.some_ (by simp [com])))
  | x :: r, y :: q, i, h, h', hi => by
    obtain ⟨h1, _, h3⟩ := drop_some h
    obtain ⟨g1, _, g3⟩ := drop_some h'
    refine Ev.step (fun k => path_shared.l0.eq_2 _ _ _ k) ?_
    refine Ev.ite_pos (by omega) (Ev.ite_pos (by omega) (Ev.ite_pos (by omega) ?_))
    rw [rdOf_drop h, rdOf_drop h', wrap_succ (by omega)]
    by_cases e : x = y
    · subst e
      refine Ev.ite_pos rfl ((pshared_loop a b ha r q (i + 1) h3 g3 (by omega)).eq ?_)
      simp [com]; omega
    · refine Ev.ite_neg (fun z => e (toList_inj.mp z)) (Ev.some_ ?_)
      simp [com, e]
theorem pshared (a b : List ByteArray) (ha : a.length ≤ 1099511627776) : Ev (fun k => path_shared.f k a b) ((com a b : Nat) : Int) := by
  unfold path_shared.f
  exact (pshared_loop a b ha a b 0 rfl rfl (by omega)).eq (by simp)
theorem rcommon_loop (a b : List ByteArray) (ha : a.length ≤ 1099511627776) : ∀ (r q : List ByteArray) (i : Nat), a.drop i = r → b.drop i = q → i ≤ a.length →
    Ev (fun k => treadleref04_common.l0 k a b i) (((i + com r q : Nat)) : Int)
  | [], q, i, h, h', hi => by
    have := drop_none h
    refine Ev.step (fun k => treadleref04_common.l0.eq_2 _ _ _ k) ?_
    exact Ev.ite_neg (by omega) (Ev.some_ (by simp [com]))
  | x :: r, [], i, h, h', hi => by
    have h1 := (drop_some h).1
    have := drop_none h'
    refine Ev.step (fun k => treadleref04_common.l0.eq_2 _ _ _ k) ?_
    exact Ev.ite_pos (by omega) (Ev.ite_neg (by omega) (Ev.some_ (by simp [com])))
  | x :: r, y :: q, i, h, h', hi => by
    obtain ⟨h1, _, h3⟩ := drop_some h
    obtain ⟨g1, _, g3⟩ := drop_some h'
    refine Ev.step (fun k => treadleref04_common.l0.eq_2 _ _ _ k) ?_
    refine Ev.ite_pos (by omega) (Ev.ite_pos (by omega) (Ev.ite_pos (by omega) ?_))
    rw [rdOf_drop h, rdOf_drop h', wrap_succ (by omega)]
    by_cases e : x = y
    · subst e
      refine Ev.ite_pos rfl ((rcommon_loop a b ha r q (i + 1) h3 g3 (by omega)).eq ?_)
      simp [com]; omega
    · refine Ev.ite_neg (fun z => e (toList_inj.mp z)) (Ev.some_ ?_)
      simp [com, e]
theorem rcommon (a b : List ByteArray) (ha : a.length ≤ 1099511627776) : Ev (fun k => treadleref04_common.f k a b) ((com a b : Nat) : Int) := by
  unfold treadleref04_common.f
  exact (rcommon_loop a b ha a b 0 rfl rfl (by omega)).eq (by simp)
def comN : List ByteArray → List ByteArray → Option (List ByteArray)
  | l, [] => some l
  | l, s :: r => match namesOf s with | none => none | some x => comN (l.take (com l x)) r
def comP : List ByteArray → ByteArray × Int
  | [] => (⟨#[]⟩, 0)
  | s :: r => match namesOf s with | none => (⟨#[]⟩, 45) | some x => match comN x r with | none => (⟨#[]⟩, 45) | some l => (txt l, 0)
theorem take_nm {l : List ByteArray} (h : l.all nm = true) (n : Nat) : (l.take n).all nm = true := by
  rw [List.all_eq_true] at h ⊢
  exact fun x hx => h x (List.mem_of_mem_take hx)
theorem pcom_loop (ps : List ByteArray) (hp : ps.length ≤ 1048576) (hz : ∀ s ∈ ps, s.size ≤ 1048576) : ∀ (r : List ByteArray) (i : Nat) (l : List ByteArray), ps.drop i = r → 0 < i → l.all nm = true → l.length ≤ 32 →
    Ev (fun k => path_Common.l0 k l ps (ps.length : Int) i) (match comN l r with | none => (⟨#[]⟩, 45) | some l => (txt l, 0))
  | [], i, l, h, hi, ha, hl => by
    have := drop_none h
    refine Ev.step (fun k => path_Common.l0.eq_2 _ _ _ _ k) ?_
    have ht := tot_nm l ha
    exact Ev.ite_neg (by omega) (Ev.bind_now (pjoins l (by omega)) (Ev.some_ rfl))
  | s :: r, i, l, h, hi, ha, hl => by
    obtain ⟨h1, _, h3⟩ := drop_some h
    have hs : s.size ≤ 1048576 := hz s (by have : s ∈ ps.drop i := by rw [h]; simp
                                           exact List.mem_of_mem_drop this)
    refine Ev.step (fun k => path_Common.l0.eq_2 _ _ _ _ k) ?_
    refine Ev.ite_pos (by omega) (Ev.ite_pos (by omega) (Ev.ite_pos (by omega) ?_))
    rw [rdOf_drop h, wrap_succ (by omega)]
    refine Ev.bind (pnames s (by omega)) ?_
    unfold comN
    cases hn : namesOf s with
    | none => exact Ev.ite_neg (by simp) (Ev.some_ rfl)
    | some x =>
      have hx := com_le l x
      refine Ev.ite_pos rfl (Ev.ite_neg (by omega) (Ev.bind (pshared l x (by omega)) (Ev.ite_pos (by omega) (Ev.ite_pos (by omega) ?_))))
      rw [Int.toNat_natCast]
      exact pcom_loop ps hp hz r (i + 1) _ h3 (by omega) (take_nm ha _) (by rw [List.length_take]; omega)
theorem rcom_loop (ps : List ByteArray) (hp : ps.length ≤ 1048576) (hz : ∀ s ∈ ps, s.size ≤ 1048576) : ∀ (r : List ByteArray) (i : Nat) (l : List ByteArray), ps.drop i = r → 0 < i → l.all nm = true → l.length ≤ 32 →
    Ev (fun k => treadleref04_Common.l0 k ps l i) (match comN l r with | none => (⟨#[]⟩, 45) | some l => (txt l, 0))
  | [], i, l, h, hi, ha, hl => by
    have := drop_none h
    refine Ev.step (fun k => treadleref04_Common.l0.eq_2 _ _ _ k) ?_
    have ht := tot_nm l ha
    exact Ev.ite_neg (by omega) (Ev.bind (rtext l (by omega)) (Ev.some_ rfl))
  | s :: r, i, l, h, hi, ha, hl => by
    obtain ⟨h1, _, h3⟩ := drop_some h
    have hs : s.size ≤ 1048576 := hz s (by have : s ∈ ps.drop i := by rw [h]; simp
                                           exact List.mem_of_mem_drop this)
    refine Ev.step (fun k => treadleref04_Common.l0.eq_2 _ _ _ k) ?_
    refine Ev.ite_pos (by omega) (Ev.ite_pos (by omega) ?_)
    rw [rdOf_drop h, wrap_succ (by omega)]
    refine Ev.bind (rnames s (by omega)) ?_
    unfold comN
    cases hn : namesOf s with
    | none => exact Ev.ite_neg (by simp) (Ev.some_ rfl)
    | some x =>
      have hx := com_le l x
      refine Ev.ite_pos rfl (Ev.ite_neg (by omega) (Ev.bind (rcommon l x (by omega)) (Ev.ite_pos (by omega) (Ev.ite_pos (by omega) ?_))))
      rw [Int.toNat_natCast]
      exact rcom_loop ps hp hz r (i + 1) _ h3 (by omega) (take_nm ha _) (by rw [List.length_take]; omega)
theorem pcommon (ps : List ByteArray) (hp : ps.length ≤ 1048576) (hz : ∀ s ∈ ps, s.size ≤ 1048576) : Ev (fun k => path_Common.f k ps) (comP ps) := by
  unfold path_Common.f
  cases ps with
  | nil =>
    refine Ev.step (fun k => path_Common.l0.eq_2 _ _ _ _ k) ?_
    exact Ev.ite_neg (by simp) (Ev.bind_now (pjoins [] (by decide)) (Ev.some_ rfl))
  | cons s r =>
    have hs : s.size ≤ 1048576 := hz s (by simp)
    have hp' : r.length + 1 ≤ 1048576 := hp
    refine Ev.step (fun k => path_Common.l0.eq_2 _ _ _ _ k) ?_
    refine Ev.ite_pos (by simp <;> omega) (Ev.ite_pos (by omega) (Ev.ite_pos (by simp <;> omega) ?_))
    have e0 : rdOf ByteArray.empty (s :: r) 0 = s := rfl
    rw [e0, show wrap64 (0 + 1) = ((1 : Nat) : Int) from wrap_succ (i := 0) (by omega)]
    refine Ev.bind (pnames s (by omega)) ?_
    simp only [comP]
    cases hn : namesOf s with
    | none => exact Ev.ite_neg (by simp) (Ev.some_ rfl)
    | some x =>
      dsimp only
      obtain ⟨hx1, hx2⟩ := namesOf_nm hn
      refine Ev.ite_pos rfl (Ev.ite_pos trivial (Ev.bind (pshared x x (by omega)) ?_))
      rw [com_self]
      refine Ev.ite_pos (by omega) (Ev.ite_pos (by omega) ?_)
      rw [Int.toNat_natCast, List.take_length]
      exact pcom_loop (s :: r) hp hz r 1 x rfl (by omega) hx1 hx2
theorem rcommonP (ps : List ByteArray) (hp : ps.length ≤ 1048576) (hz : ∀ s ∈ ps, s.size ≤ 1048576) : Ev (fun k => treadleref04_Common.f k ps) (comP ps) := by
  unfold treadleref04_Common.f
  cases ps with
  | nil =>
    refine Ev.step (fun k => treadleref04_Common.l0.eq_2 _ _ _ k) ?_
    exact Ev.ite_neg (by simp) (Ev.bind (rtext [] (by decide)) (Ev.some_ rfl))
  | cons s r =>
    have hs : s.size ≤ 1048576 := hz s (by simp)
    have hp' : r.length + 1 ≤ 1048576 := hp
    refine Ev.step (fun k => treadleref04_Common.l0.eq_2 _ _ _ k) ?_
    refine Ev.ite_pos (by simp <;> omega) (Ev.ite_pos (by omega) ?_)
    have e0 : rdOf ByteArray.empty (s :: r) 0 = s := rfl
    rw [e0, show wrap64 (0 + 1) = ((1 : Nat) : Int) from wrap_succ (i := 0) (by omega)]
    refine Ev.bind (rnames s (by omega)) ?_
    simp only [comP]
    cases hn : namesOf s with
    | none => exact Ev.ite_neg (by simp) (Ev.some_ rfl)
    | some x =>
      dsimp only
      obtain ⟨hx1, hx2⟩ := namesOf_nm hn
      refine Ev.ite_pos rfl (Ev.ite_pos trivial (Ev.bind (rcommon x x (by omega)) ?_))
      rw [com_self]
      refine Ev.ite_pos (by omega) (Ev.ite_pos (by omega) ?_)
      rw [Int.toNat_natCast, List.take_length]
      exact rcom_loop (s :: r) hp hz r 1 x rfl (by omega) hx1 hx2
theorem PathCommons (ps : List ByteArray) (hp : ps.length ≤ 1048576) (hz : ∀ s ∈ ps, s.size ≤ 1048576) : Ev (fun k => treadlelaw04_PathCommons.f k ps) true := by
  unfold treadlelaw04_PathCommons.f
  refine Ev.bind_now (twin_ ps (by omega)) (Ev.bind (pcommon ps hp hz) (Ev.bind (rcommonP ps hp hz) ?_))
  refine Ev.ite_pos rfl (Ev.bind_now rfl (Ev.ite_pos rfl (Ev.bind (same_refl ps (by omega)) (Ev.ite_pos rfl (Ev.bind awake (Ev.some_ rfl))))))

/-! ### PathCleans -/
def aimP (dir s : ByteArray) : ByteArray × Int :=
  match namesOf dir with
  | none => (⟨#[]⟩, 45)
  | some _ => if (sp [] (L s)).head? = some [46] ∨ (sp [] (L s)).head? = some [46, 46] then joinP dir [s] else cleanP s
theorem cut_slash (s : ByteArray) (hs : s.size ≤ 1048576) : ∃ x y z, strings_Cut.f s slash = some (x, y, z) ∧ (sp [] (L s)).head? = some (L x) := by
  unfold strings_Cut.f stringslite_Cut.f
  have hi : stringslite_Index.f s slash = some (Lib.indexByte (L s) 47) := rfl
  rw [hi]
  simp only [Option.bind_some]
  have hl := L_length s
  rcases indexByte_spec (L s) 47 with ⟨h1, h2⟩ | ⟨m, h1, h2, h3, h4⟩
  · rw [h1, if_neg (by omega)]
    exact ⟨_, _, _, rfl, by rw [sp_none _ _ h2]; simp⟩
  · rw [h1, if_pos (by omega), if_pos (by omega), if_pos (by omega)]
    have w1 : wrap64 ((m : Int) + (slash.size : Int)) = ((m + 1 : Nat) : Int) := wrap_succ (by omega)
    rw [w1, if_pos (by omega), if_pos (by omega)]
    refine ⟨_, _, _, rfl, ?_⟩
    rw [sp_at [] (L s) m h3 h4, L_extract]; simp
theorem paim (dir s : ByteArray) (hd : dir.size ≤ 1048576) (hs : s.size ≤ 1048576) : Ev (fun k => path_Aim.f k dir s) (aimP dir s) := by
  unfold path_Aim.f aimP
  refine Ev.bind (pcheck dir (by omega)) ?_
  cases hn : namesOf dir with
  | none => exact Ev.ite_neg (by simp) (Ev.some_ rfl)
  | some n =>
    obtain ⟨x, y, z, hc, hh⟩ := cut_slash s hs
    refine Ev.ite_pos rfl (Ev.bind_now hc ?_)
    have jt : ∀ b : Bool, b = true → Ev (fun k => path_Aim.j0 k dir s b) (joinP dir [s]) := fun b hb => by
      refine Ev.step (fun k => path_Aim.j0.eq_2 _ _ _ k) ?_
      exact Ev.ite_pos hb (Ev.bind (pjoin dir [s] hd (by simp)) (Ev.some_ rfl))
    by_cases e1 : x.toList = ([46] : List UInt8)
    · refine Ev.ite_pos e1 ((jt _ rfl).eq ?_)
      rw [toList_L] at e1
      rw [hh, if_pos (.inl (by rw [e1]))]
    · refine Ev.ite_neg e1 ?_
      by_cases e2 : x.toList = ([46, 46] : List UInt8)
      · refine (jt _ (by simp [e2])).eq ?_
        rw [toList_L] at e2
        rw [hh, if_pos (.inr (by rw [e2]))]
      · refine Ev.step (fun k => path_Aim.j0.eq_2 _ _ _ k) ?_
        refine Ev.ite_neg (by simp [e2]) (Ev.bind (pclean s) (Ev.some_ ?_))
        rw [toList_L] at e1 e2
        rw [hh, if_neg (by simp [e1, e2])]
theorem raim (dir s : ByteArray) (hd : dir.size ≤ 1048576) (hs : s.size ≤ 1048576) : Ev (fun k => treadleref04_Aim.f k dir s) (aimP dir s) := by
  unfold treadleref04_Aim.f aimP
  have hp : Ev (fun k => treadleref04_Path.f k dir) (match namesOf dir with | some _ => true | none => false) := by
    unfold treadleref04_Path.f
    refine Ev.bind (rnames dir (by omega)) (Ev.some_ ?_)
    cases namesOf dir <;> rfl
  refine Ev.bind hp ?_
  cases hn : namesOf dir with
  | none => exact Ev.ite_neg (by simp) (Ev.some_ rfl)
  | some n =>
    refine Ev.ite_pos rfl (Ev.bind (rpieces s (by omega)) ?_)
    have hpl : 0 < (pieces s).length := by rw [pieces_length]; omega
    refine Ev.ite_pos (by omega) ?_
    have hx : (sp [] (L s)).head? = some (L (rdOf ByteArray.empty (pieces s) 0)) := by
      unfold pieces
      cases hsp : sp [] (L s) with
      | nil => exact absurd hsp (sp_ne _ _)
      | cons a b => simp [rdOf, L]
    generalize rdOf ByteArray.empty (pieces s) 0 = x at hx
    have jt : ∀ b : Bool, b = true → Ev (fun k => treadleref04_Aim.j0 k dir s b) (joinP dir [s]) := fun b hb => by
      refine Ev.step (fun k => treadleref04_Aim.j0.eq_2 _ _ _ k) ?_
      exact Ev.ite_pos hb (Ev.bind (rjoin dir [s] hd (by simp)) (Ev.some_ rfl))
    by_cases e1 : x.toList = ([46] : List UInt8)
    · refine Ev.ite_pos e1 ((jt _ rfl).eq ?_)
      rw [toList_L] at e1
      rw [hx, if_pos (.inl (by rw [e1]))]
    · refine Ev.ite_neg e1 ?_
      by_cases e2 : x.toList = ([46, 46] : List UInt8)
      · refine (jt _ (by simp [e2])).eq ?_
        rw [toList_L] at e2
        rw [hx, if_pos (.inr (by rw [e2]))]
      · refine Ev.step (fun k => treadleref04_Aim.j0.eq_2 _ _ _ k) ?_
        refine Ev.ite_neg (by simp [e2]) (Ev.bind (rclean s) (Ev.some_ ?_))
        rw [toList_L] at e1 e2
        rw [hx, if_neg (by simp [e1, e2])]
theorem PathCleans (dir s : ByteArray) (hd : dir.size ≤ 1048576) (hs : s.size ≤ 1048576) : Ev (fun k => treadlelaw04_PathCleans.f k dir s) true := by
  unfold treadlelaw04_PathCleans.f
  refine Ev.bind (pclean s) (Ev.bind (rclean s) (Ev.bind (paim dir s hd hs) (Ev.bind (raim dir s hd hs) ?_)))
  refine Ev.ite_pos rfl (Ev.bind_now rfl (Ev.ite_pos rfl (Ev.ite_pos rfl (Ev.bind_now rfl (Ev.ite_pos rfl (Ev.bind awake (Ev.some_ rfl)))))))
end Go.Proofs.YtaolgiojjeopkaaDoor.Pure
