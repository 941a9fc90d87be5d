/- Texts of this repo, bundled: PaRightD, PaRightF, InvI, LaidI, PaSameE, PaSameM, PaSameF, PaPl, PaFuA, PaRightB, PaTold, PaCutF, PaRefA, PaRefB, PaRefC, PaRefD, PaRefE, PaRefF, PaRefG, PaRefH, PaRefI, PaRefJ, PaRefK. -/
import Derived.Test.YtacfbgfphkfobaaGreatDoorBunParseGapsc
import Derived.Test.YtacfbgfphkfobaaGreatDoorProg
import Derived.Below
import Derived.RowKit
import Derived.Lib.LaidTab
import Derived.Lib.ItoaMem
import Derived.Lib.LaidU8
import Derived.Stop.LaidErr
/-! ## PaRightD -/
namespace Go.Proofs.YtacfbgfphkfobaaGreatDoor.Id
open Go
set_option linter.unusedVariables false
set_option linter.unusedSimpArgs false
variable {X : Given}
def noneN (k : Int) (of nm : ByteArray) (v : TVal) (op : Int) (n : Nat) : Bool := decide (k = 0) && (decide (of = .empty) && (decide (nm = .empty) && (noVal v && (decide (op = 0) && decide (n = 0)))))
def noneE (e : TExpr) : Bool := noneN e.k e.of e.nm e.v e.op e.kids.length
def rightSN (k : Int) (nm : ByteArray) (e : TExpr) (nb : Nat) (he : Bool) : Bool :=
  if k = 1 ∨ k = 2 then rightE e && (decide (nb = 0) && (!he && isWord nm))
  else if k = 3 then rightE e && decide (nm = .empty)
  else if k = 4 then rightE e && (decide (nm = .empty) && !he)
  else if k = 5 then (rightE e || noneE e) && (decide (nb = 0) && (!he && decide (nm = .empty)))
  else if k = 6 then rightE e && (decide (nb = 0) && (!he && decide (nm = .empty)))
  else if k = 7 then rightE e && (decide (nb = 0) && (!he && (decide (nm = .empty) && decide (e.k = 3))))
  else false
mutual
def rightS : TStmt → Bool
  | .mk k a nm e body els he => rightSs body && (rightSs els && ((he || decide (els.length = 0)) && rightSN k nm e body.length he))
def rightSs : List TStmt → Bool
  | [] => true
  | s :: r => rightS s && rightSs r
end
mutual
def smS : TStmt → Prop
  | .mk k a nm e body els he => nm.size ≤ 1048576 ∧ smE e ∧ body.length ≤ 1000000000 ∧ els.length ≤ 1000000000 ∧ smSs body ∧ smSs els
def smSs : List TStmt → Prop
  | [] => True
  | s :: r => smS s ∧ smSs r
end
theorem rightSs_app : ∀ a b : List TStmt, rightSs (a ++ b) = (rightSs a && rightSs b)
  | [], b => by simp [rightSs]
  | x :: r, b => by rw [List.cons_append, rightSs, rightSs, rightSs_app r b, Bool.and_assoc]
theorem smSs_mem : ∀ {l : List TStmt} {e : TStmt}, smSs l → e ∈ l → smS e
  | x :: r, e, h, he => by
    rcases List.mem_cons.1 he with rfl | he
    · exact h.1
    · exact smSs_mem h.2 he
theorem ssAll_get {l p r : List TStmt} {x : TStmt} (h : l = p ++ x :: r) : (ssAll l)[((p.length : Int)).toNat]? = some (sD x) := by
  subst h
  rw [ssAll_app, ssAll_cons]
  have : (ssAll p).length = p.length := ssAll_len p
  simp [this]
theorem nothing_does (e : TExpr) : Does X 122 [.agg (eD e)] [] (.ret (vB (noneE e)) []) := by
  obtain ⟨k, a, of, nm, v, op, kids⟩ := e
  have e1 := dsAll_len kids
  refine DoesQ.eq (DoesQ.of Tryz.func122 (by kernel_rfl) ?_)
  dsimp only [eD, TExpr.k, TExpr.a, TExpr.of, TExpr.nm, TExpr.v, TExpr.op, TExpr.kids]
  repeat' first | refine WP.iteT (by assumption) ?_ | refine WP.iteF (by assumption) ?_ | refine WP.ite (fun _ => ?_) (fun _ => ?_) | refine WP.leaf ?_ | refine WP.asrt (by kernel_rfl) ?_
  all_goals
    refine congrArg (fun b => Out.ret (vB b) []) ?_
    change _ = noneN k of nm v op kids.length
    unfold noneN noVal
    simp_all [bytes_empty]
theorem block_chk_loop (l : List TStmt) (hk : l.length ≤ 1000000000) (hD : ∀ x ∈ l, Does X 84 [.agg (sD x)] [] (.ret (vB (rightS x)) [])) (K : Ex → St → Id.T Out) (Q : Out → Prop)
    (hE : rightSs l = true → WP X (K (.exit 0) ⟨[], []⟩) Q) (hR : rightSs l = false → WP X (K .ret ⟨[(2, .lit false)], []⟩) Q) :
    ∀ (r p : List TStmt), l = p ++ r → rightSs p = true → ∀ σ : St, getT σ.t 5 = .d (.sl 16 (ssAll l)) → getT σ.t 6 = vI (ssAll l).length → getT σ.t 7 = vI p.length → WP X (.loop (lp Tryz.f49 0) σ K) Q
  | r, p, h, hp, σ, g5, g6, g7 => by
    refine WP.round ⟨[(5, .d (.sl 16 (ssAll l))), (6, vI (ssAll l).length), (7, vI p.length)], []⟩ ⟨⟨.inl g5.symm, .inl g6.symm, .inl g7.symm, trivial⟩, trivial⟩ ?_
    have hlen : l.length = p.length + r.length := by rw [h]; simp
    cases r with
    | nil =>
      refine WP.iteF (by rw [ssAll_len]; simp at hlen; simp; omega) ?_
      refine WP.leaf ⟨⟨[], []⟩, ⟨trivial, trivial⟩, hE (by rw [h]; simpa using hp)⟩
    | cons y r =>
      simp only [List.length_cons] at hlen
      refine WP.iteT (by rw [ssAll_len]; simp; omega) ?_
      refine WP.idx _ (by omega) (ssAll_get h) ?_
      refine WP.use1 (hD y (by rw [h]; simp)) ?_
      refine WP.ite (fun hx => ?_) (fun hx => ?_)
      · refine WP.leaf ⟨⟨[(2, .lit false)], []⟩, ⟨⟨.inl rfl, trivial⟩, trivial⟩, hR ?_⟩
        rw [h, rightSs_app, rightSs]
        simp at hx; simp [hx]
      · refine WP.leaf ?_
        refine block_chk_loop l hk hD K Q hE hR r (p ++ [y]) (by rw [h]; simp) (by rw [rightSs_app, hp]; simp at hx; simp [rightSs, hx]) _ rfl rfl ?_
        show vI (IntKind.i64.wrap ((p.length : Int) + 1)) = _
        rw [wrapI (by omega) (by omega)]; simp
theorem block_chk (l : List TStmt) (hk : l.length ≤ 1000000000) (hD : ∀ x ∈ l, Does X 84 [.agg (sD x)] [] (.ret (vB (rightS x)) [])) : Does X 49 [.d (.sl 16 (ssAll l))] [] (.ret (vB (rightSs l)) []) := by
  refine DoesQ.eq (DoesQ.of Tryz.func49 (by kernel_rfl) ?_)
  refine block_chk_loop l hk hD _ _ ?_ ?_ l [] rfl rfl _ rfl rfl rfl
  · intro h; exact WP.leaf (by rw [h])
  · intro h; exact WP.leaf (by rw [h])
set_option maxHeartbeats 4000000 in
theorem stmt_chk (hX : LibX X) : ∀ (n : Nat) (s : TStmt), SizeOf.sizeOf s < n → smS s → Does X 84 [.agg (sD s)] [] (.ret (vB (rightS s)) [])
  | 0, e, h, _ => absurd h (Nat.not_lt_zero _)
  | n + 1, .mk k a nm e body els he, hn, hs => by
    simp only [smS] at hs
    obtain ⟨h1, h2, h3, h4, h5, h6⟩ := hs
    simp only [TStmt.mk.sizeOf_spec] at hn
    have hb := block_chk (X := X) body h3 (fun x hx => stmt_chk hX n x (by have := List.sizeOf_lt_of_mem hx; omega) (smSs_mem h5 hx))
    have hl := block_chk (X := X) els h4 (fun x hx => stmt_chk hX n x (by have := List.sizeOf_lt_of_mem hx; omega) (smSs_mem h6 hx))
    have hw := lword hX nm h1
    have hr := right_does hX (SizeOf.sizeOf e + 1) e (Nat.lt_succ_self _) h2
    have hN := nothing_does (X := X) e
    have e1 := ssAll_len body
    have e2 := ssAll_len els
    refine DoesQ.eq (DoesQ.of Tryz.func84 (by kernel_rfl) ?_)
    clear hn h1 h2 h3 h4 h5 h6
    dsimp only [sD, TStmt.k, TStmt.a, TStmt.nm, TStmt.e, TStmt.body, TStmt.els, TStmt.he]
    rw [rightS]
    refine WP.use1 hb ?_
    repeat' first | refine WP.iteT (by assumption) ?_ | refine WP.iteF (by assumption) ?_ | refine WP.ite (fun _ => ?_) (fun _ => ?_) | refine WP.leaf ?_ | refine WP.use1 hl ?_ | refine WP.use1 hr ?_ | refine WP.use1 hw ?_ | refine WP.use1 hN ?_ | refine WP.asrt (by kernel_rfl) ?_
    all_goals
      clear hw hb hl hr hN hX
      refine congrArg (fun b => Out.ret (vB b) []) ?_
      unfold rightSN
      simp_all [bytes_empty]
      try (intro h; subst h; contradiction)
end Go.Proofs.YtacfbgfphkfobaaGreatDoor.Id
/-! ## PaRightF -/
namespace Go.Proofs.YtacfbgfphkfobaaGreatDoor.Id
open Go
set_option linter.unusedVariables false
set_option linter.unusedSimpArgs false
variable {X : Given}
def rightI (x : TIncl) : Bool := decide (x.p.size ≤ 4096) && isWord x.nm
def rightC (c : TCons) : Bool := isWord c.nm && rightE c.e
def rightP (p : TParam) : Bool := isWord p.nm && (decide (1 ≤ p.t) && decide (p.t ≤ 3))
def rightF (f : TFunc) : Bool := isWord f.nm && (decide (0 ≤ f.res) && (decide (f.res ≤ 3) && (rightSs f.body && f.ps.all rightP)))
def rightM (m : TMod) : Bool := m.is.all rightI && (m.cs.all rightC && m.fs.all rightF)
structure SmF (f : TFunc) : Prop where
  nm : f.nm.size ≤ 1048576
  np : f.ps.length ≤ 1000000000
  ps : ∀ p ∈ f.ps, p.nm.size ≤ 1048576
  nb : f.body.length ≤ 1000000000
  body : smSs f.body
structure SmM (m : TMod) : Prop where
  ni : m.is.length ≤ 1000000000
  nc : m.cs.length ≤ 1000000000
  nf : m.fs.length ≤ 1000000000
  is : ∀ x ∈ m.is, x.nm.size ≤ 1048576
  cs : ∀ c ∈ m.cs, c.nm.size ≤ 1048576 ∧ smE c.e
  fs : ∀ f ∈ m.fs, SmF f
theorem map_get {α : Type} (F : α → List D) {l p r : List α} {x : α} (h : l = p ++ x :: r) : (l.map F)[((p.length : Int)).toNat]? = some (F x) := by
  subst h; simp
theorem all_app {α : Type} (f : α → Bool) (a b : List α) : (a ++ b).all f = (a.all f && b.all f) := by simp
abbrev mV (m : TMod) : List V := [.d (.sl 3 (isD' m.is)), .d (.sl 13 (csD m.cs)), .d (.sl 6 (fsD m.fs))]
theorem rI_loop (hX : LibX X) (l : List TIncl) (hk : l.length ≤ 1000000000) (hD : ∀ x ∈ l, x.nm.size ≤ 1048576) (m : TMod) (K : Ex → St → Id.T Out) (Q : Out → Prop)
    (hE : l.all rightI = true → WP X (K (.exit 0) ⟨[(1, .box 1 0)], [(1, mV m)]⟩) Q) (hR : l.all rightI = false → WP X (K .ret ⟨[(2, .lit false)], []⟩) Q) :
    ∀ (r p : List TIncl), l = p ++ r → p.all rightI = true → ∀ σ : St, getT σ.t 1 = .box 1 0 → getB σ.b 1 = some (mV m) → getT σ.t 12 = .d (.sl 3 (isD' l)) → getT σ.t 13 = vI (isD' l).length → getT σ.t 14 = vI p.length → WP X (.loop (lp Tryz.f25 0) σ K) Q
  | r, p, h, hp, σ, g1, gb, g5, g6, g7 => by
    refine WP.round ⟨[(1, .box 1 0), (12, .d (.sl 3 (isD' l))), (13, vI (isD' l).length), (14, vI p.length)], [(1, mV m)]⟩ ⟨⟨.inl g1.symm, .inl g5.symm, .inl g6.symm, .inl g7.symm, trivial⟩, ⟨WkB.box gb, trivial⟩⟩ ?_
    have hlen : l.length = p.length + r.length := by rw [h]; simp
    cases r with
    | nil =>
      refine WP.iteF (by simp at hlen; simp; omega) ?_
      refine WP.leaf ⟨⟨[(1, .box 1 0)], [(1, mV m)]⟩, ⟨⟨.inl rfl, trivial⟩, ⟨WkB.box rfl, trivial⟩⟩, hE (by rw [h]; simpa using hp)⟩
    | cons y r =>
      simp only [List.length_cons] at hlen
      have hw := lword hX y.nm (hD y (by rw [h]; simp))
      refine WP.iteT (by simp; omega) ?_
      refine WP.idx _ (by omega) (map_get iD h) ?_
      have hgo : rightI y = true → ∀ σ : St, getT σ.t 1 = .box 1 0 → getB σ.b 1 = some (mV m) → getT σ.t 12 = .d (.sl 3 (isD' l)) → getT σ.t 13 = vI (isD' l).length → getT σ.t 14 = vI (IntKind.i64.wrap ((p.length : Int) + 1)) → WP X (.loop (lp Tryz.f25 0) σ K) Q := fun hy σ e1 eb e12 e13 e14 => by
        refine rI_loop hX l hk hD m K Q hE hR r (p ++ [y]) (by rw [h]; simp) (by rw [all_app, hp]; simp [hy]) σ e1 eb e12 e13 ?_
        rw [e14, wrapI (by omega) (by omega)]; simp
      have hno : rightI y = false → WP X (K .ret ⟨[(2, .lit false)], []⟩) Q := fun hy => hR (by rw [h, all_app]; simp [hy])
      refine WP.dec (fun h1 => ?_) (fun h1 => ?_)
      · exact WP.leaf ⟨⟨[(2, .lit false)], []⟩, ⟨⟨.inl rfl, trivial⟩, trivial⟩, hno (by unfold rightI; rw [decide_eq_false (by omega)]; rfl)⟩
      · refine WP.use1 hw ?_
        refine WP.ite (fun h2 => ?_) (fun h2 => ?_)
        · exact WP.leaf ⟨⟨[(2, .lit false)], []⟩, ⟨⟨.inl rfl, trivial⟩, trivial⟩, hno (by unfold rightI; simp at h2; simp [h2])⟩
        · exact WP.leaf (hgo (by unfold rightI; rw [decide_eq_true (by omega)]; simpa using h2) _ rfl rfl rfl rfl rfl)
theorem rC_loop (hX : LibX X) (l : List TCons) (hk : l.length ≤ 1000000000) (hD : ∀ c ∈ l, c.nm.size ≤ 1048576 ∧ smE c.e) (m : TMod) (K : Ex → St → Id.T Out) (Q : Out → Prop)
    (hE : l.all rightC = true → WP X (K (.exit 2) ⟨[(1, .box 1 0)], [(1, mV m)]⟩) Q) (hR : l.all rightC = false → WP X (K .ret ⟨[(2, .lit false)], []⟩) Q) :
    ∀ (r p : List TCons), l = p ++ r → p.all rightC = true → ∀ σ : St, getT σ.t 1 = .box 1 0 → getB σ.b 1 = some (mV m) → getT σ.t 30 = .d (.sl 13 (csD l)) → getT σ.t 31 = vI (csD l).length → getT σ.t 32 = vI p.length → WP X (.loop (lp Tryz.f25 1) σ K) Q
  | r, p, h, hp, σ, g1, gb, g5, g6, g7 => by
    refine WP.round ⟨[(1, .box 1 0), (30, .d (.sl 13 (csD l))), (31, vI (csD l).length), (32, vI p.length)], [(1, mV m)]⟩ ⟨⟨.inl g1.symm, .inl g5.symm, .inl g6.symm, .inl g7.symm, trivial⟩, ⟨WkB.box gb, trivial⟩⟩ ?_
    have hlen : l.length = p.length + r.length := by rw [h]; simp
    cases r with
    | nil =>
      refine WP.iteF (by simp at hlen; simp; omega) ?_
      refine WP.leaf ⟨⟨[(1, .box 1 0)], [(1, mV m)]⟩, ⟨⟨.inl rfl, trivial⟩, ⟨WkB.box rfl, trivial⟩⟩, hE (by rw [h]; simpa using hp)⟩
    | cons y r =>
      simp only [List.length_cons] at hlen
      have hy := hD y (by rw [h]; simp)
      have hw := lword hX y.nm hy.1
      have hr := right_does hX (SizeOf.sizeOf y.e + 1) y.e (Nat.lt_succ_self _) hy.2
      refine WP.iteT (by simp; omega) ?_
      refine WP.idx _ (by omega) (map_get cD h) ?_
      have hgo : rightC y = true → ∀ σ : St, getT σ.t 1 = .box 1 0 → getB σ.b 1 = some (mV m) → getT σ.t 30 = .d (.sl 13 (csD l)) → getT σ.t 31 = vI (csD l).length → getT σ.t 32 = vI (IntKind.i64.wrap ((p.length : Int) + 1)) → WP X (.loop (lp Tryz.f25 1) σ K) Q := fun hy σ e1 eb e12 e13 e14 => by
        refine rC_loop hX l hk hD m K Q hE hR r (p ++ [y]) (by rw [h]; simp) (by rw [all_app, hp]; simp [hy]) σ e1 eb e12 e13 ?_
        rw [e14, wrapI (by omega) (by omega)]; simp
      have hno : rightC y = false → WP X (K .ret ⟨[(2, .lit false)], []⟩) Q := fun hy => hR (by rw [h, all_app]; simp [hy])
      refine WP.use1 hw ?_
      refine WP.ite (fun h1 => ?_) (fun h1 => ?_)
      · exact WP.leaf ⟨⟨[(2, .lit false)], []⟩, ⟨⟨.inl rfl, trivial⟩, trivial⟩, hno (by unfold rightC; simp at h1; simp [h1])⟩
      · refine WP.use1 hr ?_
        refine WP.ite (fun h2 => ?_) (fun h2 => ?_)
        · exact WP.leaf ⟨⟨[(2, .lit false)], []⟩, ⟨⟨.inl rfl, trivial⟩, trivial⟩, hno (by unfold rightC; simp at h2; simp [h2])⟩
        · exact WP.leaf (hgo (by unfold rightC; simp at h1 h2; simp [h1, h2]) _ rfl rfl rfl rfl rfl)
theorem rP_loop {β : Type} (hX : LibX X) (l : List TParam) (hk : l.length ≤ 1000000000) (hD : ∀ p ∈ l, p.nm.size ≤ 1048576) (z48 : List (List D)) (n49 n50 : Int) (K : Ex → St → Id.T β) (Q : β → Prop)
    (hE : l.all rightP = true → WP X (K (.exit 6) ⟨[(48, .d (.sl 6 z48)), (49, vI n49), (50, vI n50)], []⟩) Q) (hR : l.all rightP = false → WP X (K .ret ⟨[(2, .lit false)], []⟩) Q) :
    ∀ (r p : List TParam), l = p ++ r → p.all rightP = true → ∀ σ : St, getT σ.t 48 = .d (.sl 6 z48) → getT σ.t 49 = vI n49 → getT σ.t 50 = vI n50 → getT σ.t 75 = .d (.sl 2 (psD l)) → getT σ.t 76 = vI (psD l).length → getT σ.t 77 = vI p.length → WP X (.loop (lp Tryz.f25 3) σ K) Q
  | r, p, h, hp, σ, g1, g2, g3, g5, g6, g7 => by
    refine WP.round ⟨[(48, .d (.sl 6 z48)), (49, vI n49), (50, vI n50), (75, .d (.sl 2 (psD l))), (76, vI (psD l).length), (77, vI p.length)], []⟩ ⟨⟨.inl g1.symm, .inl g2.symm, .inl g3.symm, .inl g5.symm, .inl g6.symm, .inl g7.symm, trivial⟩, trivial⟩ ?_
    have hlen : l.length = p.length + r.length := by rw [h]; simp
    cases r with
    | nil =>
      refine WP.iteF (by simp at hlen; simp; omega) ?_
      refine WP.leaf ⟨⟨[(48, .d (.sl 6 z48)), (49, vI n49), (50, vI n50)], []⟩, ⟨⟨.inl rfl, .inl rfl, .inl rfl, trivial⟩, trivial⟩, hE (by rw [h]; simpa using hp)⟩
    | cons y r =>
      simp only [List.length_cons] at hlen
      have hw := lword hX y.nm (hD y (by rw [h]; simp))
      refine WP.iteT (by simp; omega) ?_
      refine WP.idx _ (by omega) (map_get pD h) ?_
      have hgo : rightP y = true → ∀ σ : St, getT σ.t 48 = .d (.sl 6 z48) → getT σ.t 49 = vI n49 → getT σ.t 50 = vI n50 → getT σ.t 75 = .d (.sl 2 (psD l)) → getT σ.t 76 = vI (psD l).length → getT σ.t 77 = vI (IntKind.i64.wrap ((p.length : Int) + 1)) → WP X (.loop (lp Tryz.f25 3) σ K) Q := fun hy σ e1 e2 e3 e12 e13 e14 => by
        refine rP_loop hX l hk hD z48 n49 n50 K Q hE hR r (p ++ [y]) (by rw [h]; simp) (by rw [all_app, hp]; simp [hy]) σ e1 e2 e3 e12 e13 ?_
        rw [e14, wrapI (by omega) (by omega)]; simp
      have hno : rightP y = false → WP X (K .ret ⟨[(2, .lit false)], []⟩) Q := fun hy => hR (by rw [h, all_app]; simp [hy])
      refine WP.use1 hw ?_
      repeat' first | refine WP.iteT (by assumption) ?_ | refine WP.iteF (by assumption) ?_ | refine WP.ite (fun _ => ?_) (fun _ => ?_) | refine WP.leaf ?_
      all_goals first
        | exact ⟨⟨[(2, .lit false)], []⟩, ⟨⟨.inl rfl, trivial⟩, trivial⟩, hno (by unfold rightP; simp_all <;> omega)⟩
        | exact hgo (by unfold rightP; simp_all <;> omega) _ rfl rfl rfl rfl rfl rfl
theorem rF_loop (hX : LibX X) (l : List TFunc) (hk : l.length ≤ 1000000000) (hD : ∀ f ∈ l, SmF f) (K : Ex → St → Id.T Out) (Q : Out → Prop)
    (hE : l.all rightF = true → WP X (K (.exit 4) ⟨[], []⟩) Q) (hR : l.all rightF = false → WP X (K .ret ⟨[(2, .lit false)], []⟩) Q) :
    ∀ (r p : List TFunc), l = p ++ r → p.all rightF = true → ∀ σ : St, getT σ.t 48 = .d (.sl 6 (fsD l)) → getT σ.t 49 = vI (fsD l).length → getT σ.t 50 = vI p.length → WP X (.loop (lp Tryz.f25 2) σ K) Q
  | r, p, h, hp, σ, g5, g6, g7 => by
    refine WP.round ⟨[(48, .d (.sl 6 (fsD l))), (49, vI (fsD l).length), (50, vI p.length)], []⟩ ⟨⟨.inl g5.symm, .inl g6.symm, .inl g7.symm, trivial⟩, trivial⟩ ?_
    have hlen : l.length = p.length + r.length := by rw [h]; simp
    cases r with
    | nil =>
      refine WP.iteF (by simp at hlen; simp; omega) ?_
      refine WP.leaf ⟨⟨[], []⟩, ⟨trivial, trivial⟩, hE (by rw [h]; simpa using hp)⟩
    | cons y r =>
      simp only [List.length_cons] at hlen
      have hy := hD y (by rw [h]; simp)
      have hw := lword hX y.nm hy.nm
      have hb := block_chk (X := X) y.body hy.nb (fun x hx => stmt_chk hX (SizeOf.sizeOf x + 1) x (Nat.lt_succ_self _) (smSs_mem hy.body hx))
      refine WP.iteT (by simp; omega) ?_
      refine WP.idx _ (by omega) (map_get fD h) ?_
      have hno : rightF y = false → WP X (K .ret ⟨[(2, .lit false)], []⟩) Q := fun hy => hR (by rw [h, all_app]; simp [hy])
      refine WP.use1 hw ?_
      repeat' first | refine WP.iteT (by assumption) ?_ | refine WP.iteF (by assumption) ?_ | refine WP.ite (fun _ => ?_) (fun _ => ?_) | refine WP.leaf ?_ | refine WP.use1 hb ?_
      all_goals first
        | exact ⟨⟨[(2, .lit false)], []⟩, ⟨⟨.inl rfl, trivial⟩, trivial⟩, hno (by unfold rightF; simp_all <;> omega)⟩
        | skip
      refine rP_loop hX y.ps hy.np hy.ps (fsD l) (fsD l).length p.length _ _ ?_ ?_ y.ps [] rfl rfl _ rfl rfl rfl rfl rfl rfl
      · intro ha
        refine WP.leaf ?_
        refine rF_loop hX l hk hD K Q hE hR r (p ++ [y]) (by rw [h]; simp) (by rw [all_app, hp]; unfold rightF; simp_all) _ rfl rfl ?_
        show vI (IntKind.i64.wrap ((p.length : Int) + 1)) = _
        rw [wrapI (by omega) (by omega)]; simp
      · intro ha
        exact WP.leaf ⟨⟨[(2, .lit false)], []⟩, ⟨⟨.inl rfl, trivial⟩, trivial⟩, hno (by unfold rightF; simp_all)⟩
theorem right_mod (hX : LibX X) (m : TMod) (hm : SmM m) : Does X 25 [.agg (mD m)] [] (.ret (vB (rightM m)) []) := by
  refine DoesQ.eq (DoesQ.of Tryz.func25 (by kernel_rfl) ?_)
  unfold rightM
  refine rI_loop hX m.is hm.ni hm.is m _ _ ?_ ?_ m.is [] rfl rfl _ rfl rfl rfl rfl rfl
  · intro h1
    refine rC_loop hX m.cs hm.nc hm.cs m _ _ ?_ ?_ m.cs [] rfl rfl _ rfl rfl rfl rfl rfl
    · intro h2
      refine rF_loop hX m.fs hm.nf hm.fs _ _ ?_ ?_ m.fs [] rfl rfl _ rfl rfl rfl
      · intro h3; exact WP.leaf (by rw [h1, h2, h3]; rfl)
      · intro h3; exact WP.leaf (by rw [h1, h2, h3]; rfl)
    · intro h2; exact WP.leaf (by rw [h1, h2]; rfl)
  · intro h1; exact WP.leaf (by rw [h1]; rfl)
end Go.Proofs.YtacfbgfphkfobaaGreatDoor.Id
/-! ## InvI -/
namespace Go.Proofs.YtacfbgfphkfobaaGreatDoor.P
open Go.RowKit
structure Inv (w : World) : Prop where
  pow : Lib.TabIs Tryz.prog w "internal/strconv.uint64pow10" .u64 Lib.pow10Tab
  rng : ∃ ev, w.cell? ⟨2, 0, none⟩ = some ev ∧ (ev = .nilIface ∨ ∃ te pe, ev = .iface te pe)
theorem gPow : Tryz.prog.globalNamed "internal/strconv.uint64pow10" = some 3 := by kernel_rfl
theorem Inv.below {w w' : World} (h : Inv w) (hb : Below w.heap.size w w') : Inv w' := by
  constructor
  · have h1 := h.pow
    unfold Lib.TabIs World.var? at h1 ⊢
    rw [gPow] at h1 ⊢
    simp only [Option.bind_some] at h1 ⊢
    cases hc : w.heap[3]? with
    | none => rw [hc] at h1; cases h1
    | some o =>
      have hlt : 3 < w.heap.size := by
        rcases Nat.lt_or_ge 3 w.heap.size with h2 | h2
        · exact h2
        · rw [Array.getElem?_eq_none h2] at hc; cases hc
      rw [hb.block _ hlt, hc]
      rw [hc] at h1
      exact h1
  · obtain ⟨ev, h1, h2⟩ := h.rng
    refine ⟨ev, ?_, h2⟩
    have hlt := World.block_lt_of_cell? w _ h1
    rw [hb.cell hlt]; exact h1
end Go.Proofs.YtacfbgfphkfobaaGreatDoor.P
/-! ## LaidI -/
namespace Go.Proofs.YtacfbgfphkfobaaGreatDoor.P
open Go.RowKit
theorem gErrS : Tryz.prog.globalNamed "strconv.ErrSyntax" = some 1 := by kernel_rfl
theorem gErrR : Tryz.prog.globalNamed "strconv.ErrRange" = some 2 := by kernel_rfl
theorem starE : "*" ++ "errors.errorString" = "*errors.errorString" := by decide
theorem rowE (u : TypeId) (h : Tryz.prog.typeName? 3 u = some "*errors.errorString") : u = 200 :=
  typeName_ptr_named (nm := "errors.errorString") (by rw [starE]; kernel_rfl) (by kernel_rfl) (by decide) u (by rw [starE]; exact h)
theorem cellsOfTab : Tryz.prog.cellsOf 195 = 20 := by kernel_rfl
theorem inv_of_laid {W : World} {l0 l1 : String × DataW Unit} {r : List (String × DataW Unit)} {text : List UInt8}
    (h : laidMet Tryz.prog (l0 :: l1 :: ("internal/strconv.uint64pow10", Lib.tabData .u64 Lib.pow10Tab) :: ("strconv.ErrRange", .iface "*errors.errorString" (.ptr (.agg [.lit (.string text)]))) :: r) W) : Inv W := by
  constructor
  · exact Lib.tabIs_of_head (t := 195) (n := 20) gPow (by kernel_rfl) Tryz.underlying195 Tryz.underlying148 (by kernel_rfl) (by kernel_rfl) h.tail.tail
  · obtain ⟨a1, s1, hv1, -, -, -⟩ := laid_sentinel (ti := 126) (tp := 200) (te := 202) (ts := 9) h.tail.tail.tail gErrR (by kernel_rfl) Tryz.underlying126 rowE Tryz.underlying200 Tryz.underlying202 rfl rfl Tryz.underlying9 (by kernel_rfl) (by kernel_rfl)
    exact ⟨_, by have h0 := World.var?_cell gErrR hv1 0; simpa using h0, Or.inr ⟨_, _, rfl⟩⟩
theorem inv_of_laid1 {W : World} {l0 l1 l2 : String × DataW Unit} {r : List (String × DataW Unit)} {text : List UInt8}
    (h : laidMet Tryz.prog (l0 :: l1 :: ("internal/strconv.uint64pow10", Lib.tabData .u64 Lib.pow10Tab) :: l2 :: ("strconv.ErrRange", .iface "*errors.errorString" (.ptr (.agg [.lit (.string text)]))) :: r) W) : Inv W := by
  constructor
  · exact Lib.tabIs_of_head (t := 195) (n := 20) gPow (by kernel_rfl) Tryz.underlying195 Tryz.underlying148 (by kernel_rfl) (by kernel_rfl) h.tail.tail
  · obtain ⟨a1, s1, hv1, -, -, -⟩ := laid_sentinel (ti := 126) (tp := 200) (te := 202) (ts := 9) h.tail.tail.tail.tail gErrR (by kernel_rfl) Tryz.underlying126 rowE Tryz.underlying200 Tryz.underlying202 rfl rfl Tryz.underlying9 (by kernel_rfl) (by kernel_rfl)
    exact ⟨_, by have h0 := World.var?_cell gErrR hv1 0; simpa using h0, Or.inr ⟨_, _, rfl⟩⟩
end Go.Proofs.YtacfbgfphkfobaaGreatDoor.P
/-! ## PaSameE -/
namespace Go.Proofs.YtacfbgfphkfobaaGreatDoor.Id
open Go
set_option linter.unusedVariables false
set_option linter.unusedSimpArgs false
set_option maxRecDepth 100000
set_option maxHeartbeats 4000000
variable {X : Given}
mutual
/-- the same, places aside if they do not count -/
def eqE (pl : Bool) : TExpr → TExpr → Prop
  | .mk k a of nm v op kids, e => k = e.k ∧ (pl = true → a = e.a) ∧ of = e.of ∧ nm = e.nm ∧ v = e.v ∧ op = e.op ∧ eqEs pl kids e.kids
def eqEs (pl : Bool) : List TExpr → List TExpr → Prop
  | [], l => l = []
  | x :: r, l => ∃ y s, l = y :: s ∧ eqE pl x y ∧ eqEs pl r s
end
mutual
theorem eqE_refl (pl : Bool) : ∀ e, eqE pl e e
  | .mk k a of nm v op kids => by
    rw [eqE]
    exact ⟨rfl, fun _ => rfl, rfl, rfl, rfl, rfl, eqEs_refl pl kids⟩
theorem eqEs_refl (pl : Bool) : ∀ l, eqEs pl l l
  | [] => by rw [eqEs]
  | x :: r => by rw [eqEs]; exact ⟨x, r, rfl, eqE_refl pl x, eqEs_refl pl r⟩
end
theorem eqEs_len {pl : Bool} : ∀ {l m : List TExpr}, eqEs pl l m → m.length = l.length
  | [], m, h => by rw [eqEs] at h; rw [h]
  | x :: r, m, h => by
    rw [eqEs] at h
    obtain ⟨y, s, rfl, _, h⟩ := h
    simp [eqEs_len h]
theorem same_loop (pl : Bool) (a b : TExpr) (hk : a.kids.length ≤ 1000000000) (hD : ∀ x ∈ a.kids, ∀ y, eqE pl x y → Does X 18 [.agg (eD x), .agg (eD y), vB pl] [] (.ret (vB true) [])) (K : Ex → St → Id.T Out) (Q : Out → Prop)
    (hE : WP X (K (.exit 0) ⟨[], []⟩) Q) :
    ∀ (r p s q : List TExpr), a.kids = p ++ r → b.kids = q ++ s → p.length = q.length → eqEs pl r s → ∀ σ : St, getT σ.t 2 = vB pl → getT σ.t 3 = .box 3 0 → getT σ.t 4 = .box 4 0 → getT σ.t 7 = vI p.length → getB σ.b 3 = some (eV a) → getB σ.b 4 = some (eV b) → WP X (.loop (lp Tryz.f18 0) σ K) Q
  | r, p, s, q, h, h', hpq, hs, σ, g2, g3, g4, g7, gb, gb4 => by
    refine WP.round ⟨[(2, vB pl), (3, .box 3 0), (4, .box 4 0), (7, vI p.length)], [(3, eV a), (4, eV b)]⟩ ⟨⟨.inl g2.symm, .inl g3.symm, .inl g4.symm, .inl g7.symm, trivial⟩, ⟨WkB.box gb, WkB.box gb4, trivial⟩⟩ ?_
    have hlen : a.kids.length = p.length + r.length := by rw [h]; simp
    cases r with
    | nil =>
      refine WP.iteF (by rw [dsAll_len]; simp at hlen; simp; omega) ?_
      exact WP.leaf ⟨⟨[], []⟩, ⟨trivial, trivial⟩, hE⟩
    | cons x r =>
      rw [eqEs] at hs
      obtain ⟨y, s, rfl, hxy, hs⟩ := hs
      simp only [List.length_cons] at hlen
      refine WP.iteT (by rw [dsAll_len]; simp; omega) ?_
      refine WP.asrt (by kernel_rfl) ?_
      refine WP.idx _ (by omega) (dsAll_get h) ?_
      refine WP.idx _ (by omega) (by rw [hpq]; exact dsAll_get h') ?_
      refine WP.use1 (hD x (by rw [h]; simp) y hxy) ?_
      repeat refine WP.asrt (by kernel_rfl) ?_
      refine WP.iteF rfl ?_
      refine WP.leaf ?_
      refine same_loop pl a b hk hD K Q hE r (p ++ [x]) s (q ++ [y]) (by rw [h]; simp) (by rw [h']; simp) (by simp [hpq]) hs _ rfl rfl rfl ?_ rfl rfl
      show vI (IntKind.i64.wrap ((p.length : Int) + 1)) = _
      rw [wrapI (by omega) (by omega)]; simp
theorem same_does (pl : Bool) : ∀ (n : Nat) (e f : TExpr), SizeOf.sizeOf e < n → smE e → eqE pl e f → Does X 18 [.agg (eD e), .agg (eD f), vB pl] [] (.ret (vB true) [])
  | 0, e, f, h, _, _ => absurd h (Nat.not_lt_zero _)
  | n + 1, .mk k a of nm v op kids, .mk k' a' of' nm' v' op' kids', hn, hs, he => by
    simp only [smE] at hs
    obtain ⟨h1, h2, h3, h4⟩ := hs
    rw [eqE] at he
    obtain ⟨rfl, ha, rfl, rfl, rfl, rfl, hk⟩ := he
    refine DoesQ.eq (DoesQ.of Tryz.func18 (by kernel_rfl) ?_)
    have hl := eqEs_len hk
    have hl2 : (dsAll kids').length = (dsAll kids).length := by rw [dsAll_len, dsAll_len]; exact hl
    have hmain : ∀ (a a' : Int), (pl = true → a = a') → WP X (evBody tt none Tryz.f18 [.agg (eD (.mk k a of nm v op kids)), .agg (eD (.mk k a' of nm v op kids')), vB pl] []) (· = .ret (vB true) []) := by
      intro a a' ha
      dsimp only [eD, TExpr.k, TExpr.a, TExpr.of, TExpr.nm, TExpr.v, TExpr.op, TExpr.kids]
      cases pl with
      | true =>
        have ha := ha rfl
        subst ha
        repeat first | refine WP.iteF (by first | (simp; done) | (simp [hl2]; done) | (simp; omega)) ?_ | refine WP.iteT (by first | (simp; done) | (simp; omega)) ?_ | refine WP.asrt (by kernel_rfl) ?_
        refine same_loop true (.mk k a of nm v op kids) (.mk k a of nm v op kids') h3 (fun x hx y hxy => same_does true n x y ?_ (smEs_mem h4 hx) hxy) _ _ ?_ kids [] kids' [] rfl rfl rfl hk _ rfl rfl rfl rfl rfl rfl
        · have := List.sizeOf_lt_of_mem hx
          simp only [TExpr.mk.sizeOf_spec] at hn
          have : (TExpr.mk k a of nm v op kids).kids = kids := rfl
          simp_all; omega
        · exact WP.leaf rfl
      | false =>
        repeat first | refine WP.iteF (by first | (simp; done) | (simp [hl2]; done) | (simp; omega)) ?_ | refine WP.iteT (by first | (simp; done) | (simp; omega)) ?_ | refine WP.asrt (by kernel_rfl) ?_
        refine same_loop false (.mk k a of nm v op kids) (.mk k a' of nm v op kids') h3 (fun x hx y hxy => same_does false n x y ?_ (smEs_mem h4 hx) hxy) _ _ ?_ kids [] kids' [] rfl rfl rfl hk _ rfl rfl rfl rfl rfl rfl
        · have := List.sizeOf_lt_of_mem hx
          simp only [TExpr.mk.sizeOf_spec] at hn
          have : (TExpr.mk k a of nm v op kids).kids = kids := rfl
          simp_all; omega
        · exact WP.leaf rfl
    exact hmain a a' ha
end Go.Proofs.YtacfbgfphkfobaaGreatDoor.Id
/-! ## PaSameM -/
namespace Go.Proofs.YtacfbgfphkfobaaGreatDoor.Id
open Go
set_option linter.unusedVariables false
set_option linter.unusedSimpArgs false
set_option maxRecDepth 100000
set_option maxHeartbeats 4000000
variable {X : Given}
mutual
def eqS (pl : Bool) : TStmt → TStmt → Prop
  | .mk k a nm e body els he, s => k = s.k ∧ (pl = true → a = s.a) ∧ nm = s.nm ∧ eqE pl e s.e ∧ eqSs pl body s.body ∧ eqSs pl els s.els ∧ he = s.he
def eqSs (pl : Bool) : List TStmt → List TStmt → Prop
  | [], l => l = []
  | x :: r, l => ∃ y s, l = y :: s ∧ eqS pl x y ∧ eqSs pl r s
end
mutual
theorem eqS_refl (pl : Bool) : ∀ s, eqS pl s s
  | .mk k a nm e body els he => by
    rw [eqS]
    exact ⟨rfl, fun _ => rfl, rfl, eqE_refl pl e, eqSs_refl pl body, eqSs_refl pl els, rfl⟩
theorem eqSs_refl (pl : Bool) : ∀ l, eqSs pl l l
  | [] => by rw [eqSs]
  | x :: r => by rw [eqSs]; exact ⟨x, r, rfl, eqS_refl pl x, eqSs_refl pl r⟩
end
theorem eqSs_len {pl : Bool} : ∀ {l m : List TStmt}, eqSs pl l m → m.length = l.length
  | [], m, h => by rw [eqSs] at h; rw [h]
  | x :: r, m, h => by
    rw [eqSs] at h
    obtain ⟨y, s, rfl, _, h⟩ := h
    simp [eqSs_len h]
abbrev SsSame (X : Given) (pl : Bool) (l m : List TStmt) : Prop := Does X 32 [.d (.sl 16 (ssAll l)), .d (.sl 16 (ssAll m)), vB pl] [] (.ret (vB true) [])
theorem stmts_loop (pl : Bool) (a b : List TStmt) (hk : a.length ≤ 1000000000)
    (hD : ∀ x ∈ a, ∀ y, eqS pl x y → Does X 18 [.agg (eD x.e), .agg (eD y.e), vB pl] [] (.ret (vB true) []) ∧ SsSame X pl x.body y.body ∧ SsSame X pl x.els y.els) (K : Ex → St → Id.T Out) (Q : Out → Prop)
    (hE : WP X (K (.exit 0) ⟨[], []⟩) Q) :
    ∀ (r p s q : List TStmt), a = p ++ r → b = q ++ s → p.length = q.length → eqSs pl r s → ∀ σ : St, getT σ.t 0 = .d (.sl 16 (ssAll a)) → getT σ.t 1 = .d (.sl 16 (ssAll b)) → getT σ.t 2 = vB pl → getT σ.t 7 = vI p.length → WP X (.loop (lp Tryz.f32 0) σ K) Q
  | r, p, s, q, h, h', hpq, hs, σ, g0, g1, g2, g7 => by
    refine WP.round ⟨[(0, .d (.sl 16 (ssAll a))), (1, .d (.sl 16 (ssAll b))), (2, vB pl), (7, vI p.length)], []⟩ ⟨⟨.inl g0.symm, .inl g1.symm, .inl g2.symm, .inl g7.symm, trivial⟩, trivial⟩ ?_
    have hlen : a.length = p.length + r.length := by rw [h]; simp
    cases r with
    | nil =>
      refine WP.iteF (by rw [ssAll_len]; simp at hlen; simp; omega) ?_
      exact WP.leaf ⟨⟨[], []⟩, ⟨trivial, trivial⟩, hE⟩
    | cons x r =>
      rw [eqSs] at hs
      obtain ⟨y, s, rfl, hxy, hs⟩ := hs
      simp only [List.length_cons] at hlen
      have hx := hD x (by rw [h]; simp) y hxy
      refine WP.iteT (by rw [ssAll_len]; simp; omega) ?_
      refine WP.asrt (by kernel_rfl) ?_
      refine WP.idx _ (by omega) (ssAll_get h) ?_
      refine WP.idx _ (by omega) (by rw [hpq]; exact ssAll_get h') ?_
      have hnext : ∀ σ : St, getT σ.t 0 = .d (.sl 16 (ssAll a)) → getT σ.t 1 = .d (.sl 16 (ssAll b)) → getT σ.t 2 = vB pl → getT σ.t 7 = vI (IntKind.i64.wrap ((p.length : Int) + 1)) → WP X (.loop (lp Tryz.f32 0) σ K) Q := fun σ g0 g1 g2 g7 => by
        refine stmts_loop pl a b hk hD K Q hE r (p ++ [x]) s (q ++ [y]) (by rw [h]; simp) (by rw [h']; simp) (by simp [hpq]) hs σ g0 g1 g2 ?_
        rw [g7, wrapI (by omega) (by omega)]; simp
      obtain ⟨k, at1, nm, e, body, els, he⟩ := x
      obtain ⟨k', at2, nm', e', body', els', he'⟩ := y
      rw [eqS] at hxy
      obtain ⟨rfl, ha, rfl, -, -, -, rfl⟩ := hxy
      obtain ⟨h1, h2, h3⟩ := hx
      dsimp only [TStmt.e, TStmt.body, TStmt.els, TStmt.a] at h1 h2 h3 ha
      dsimp only [sD, TStmt.k, TStmt.a, TStmt.nm, TStmt.e, TStmt.body, TStmt.els, TStmt.he]
      cases pl with
      | true =>
        have ha := ha rfl
        subst ha
        repeat first | refine WP.iteF (by first | (simp; done) | (simp; omega)) ?_ | refine WP.iteT (by first | (simp; done) | (simp; omega)) ?_ | refine WP.asrt (by kernel_rfl) ?_ | refine WP.use1 h1 ?_ | refine WP.use1 h2 ?_ | refine WP.use1 h3 ?_
        refine WP.leaf ?_
        exact hnext _ rfl rfl rfl rfl
      | false =>
        repeat first | refine WP.iteF (by first | (simp; done) | (simp; omega)) ?_ | refine WP.iteT (by first | (simp; done) | (simp; omega)) ?_ | refine WP.asrt (by kernel_rfl) ?_ | refine WP.use1 h1 ?_ | refine WP.use1 h2 ?_ | refine WP.use1 h3 ?_
        refine WP.leaf ?_
        exact hnext _ rfl rfl rfl rfl
theorem stmts_same (pl : Bool) : ∀ (n : Nat) (l m : List TStmt), SizeOf.sizeOf l < n → smSs l → l.length ≤ 1000000000 → eqSs pl l m → SsSame X pl l m
  | 0, l, m, h, _, _, _ => absurd h (Nat.not_lt_zero _)
  | n + 1, l, m, hn, hs, hk, he => by
    refine DoesQ.eq (DoesQ.of Tryz.func32 (by kernel_rfl) ?_)
    have hl := eqSs_len he
    refine WP.iteF (by rw [ssAll_len, ssAll_len, hl]; simp) ?_
    refine stmts_loop pl l m hk ?_ _ _ ?_ l [] m [] rfl rfl rfl he _ rfl rfl rfl rfl
    · intro x hx y hxy
      have hsx := smSs_mem hs hx
      have hz := List.sizeOf_lt_of_mem hx
      obtain ⟨k, a, nm, e, body, els, b⟩ := x
      simp only [smS] at hsx
      rw [eqS] at hxy
      simp only [TStmt.mk.sizeOf_spec] at hz
      obtain ⟨_, _, _, h1, h2, h3, _⟩ := hxy
      exact ⟨same_does pl (SizeOf.sizeOf e + 1) _ _ (Nat.lt_succ_self _) hsx.2.1 h1, stmts_same pl n body _ (by omega) hsx.2.2.2.2.1 hsx.2.2.1 h2, stmts_same pl n els _ (by omega) hsx.2.2.2.2.2 hsx.2.2.2.1 h3⟩
    · exact WP.leaf rfl
end Go.Proofs.YtacfbgfphkfobaaGreatDoor.Id
/-! ## PaSameF -/
namespace Go.Proofs.YtacfbgfphkfobaaGreatDoor.Id
open Go
set_option linter.unusedVariables false
set_option linter.unusedSimpArgs false
set_option maxRecDepth 100000
set_option maxHeartbeats 4000000
variable {X : Given}
def All2 {α : Type} (R : α → α → Prop) : List α → List α → Prop
  | [], l => l = []
  | x :: r, l => ∃ y s, l = y :: s ∧ R x y ∧ All2 R r s
theorem All2.refl {α : Type} {R : α → α → Prop} (h : ∀ x, R x x) : ∀ l, All2 R l l
  | [] => rfl
  | x :: r => ⟨x, r, rfl, h x, All2.refl h r⟩
theorem All2.len {α : Type} {R : α → α → Prop} : ∀ {l m : List α}, All2 R l m → m.length = l.length
  | [], m, h => by have : m = [] := h; rw [this]
  | x :: r, m, h => by
    obtain ⟨y, s, rfl, _, h⟩ := h
    simp [All2.len h]
abbrev eqI (pl : Bool) (x y : TIncl) : Prop := x.p = y.p ∧ x.nm = y.nm ∧ (pl = true → x.a = y.a)
abbrev eqC (pl : Bool) (x y : TCons) : Prop := x.nm = y.nm ∧ x.ex = y.ex ∧ (pl = true → x.a = y.a) ∧ eqE pl x.e y.e
abbrev eqF (pl : Bool) (x y : TFunc) : Prop := x.nm = y.nm ∧ x.ex = y.ex ∧ (pl = true → x.a = y.a) ∧ x.ps = y.ps ∧ x.res = y.res ∧ eqSs pl x.body y.body
structure EqM (pl : Bool) (a b : TMod) : Prop where
  is : All2 (eqI pl) a.is b.is
  cs : All2 (eqC pl) a.cs b.cs
  fs : All2 (eqF pl) a.fs b.fs
theorem eqM_refl (pl : Bool) (m : TMod) : EqM pl m m :=
  ⟨.refl (fun _ => ⟨rfl, rfl, fun _ => rfl⟩) _, .refl (fun c => ⟨rfl, rfl, fun _ => rfl, eqE_refl pl c.e⟩) _, .refl (fun f => ⟨rfl, rfl, fun _ => rfl, rfl, rfl, eqSs_refl pl f.body⟩) _⟩
abbrev smEx (pl : Bool) (a b : TMod) : St := ⟨[(2, vB pl), (3, .box 3 0), (4, .box 4 0)], [(3, mV a), (4, mV b)]⟩
theorem sameI_loop (pl : Bool) (a b : TMod) (hk : a.is.length ≤ 1000000000) (K : Ex → St → Id.T Out) (Q : Out → Prop) (hE : WP X (K (.exit 0) (smEx pl a b)) Q) :
    ∀ (r p s q : List TIncl), a.is = p ++ r → b.is = q ++ s → p.length = q.length → All2 (eqI pl) r s → ∀ σ : St, getT σ.t 2 = vB pl → getT σ.t 3 = .box 3 0 → getT σ.t 4 = .box 4 0 → getT σ.t 7 = vI p.length → getB σ.b 3 = some (mV a) → getB σ.b 4 = some (mV b) → WP X (.loop (lp Tryz.f13 0) σ K) Q
  | r, p, s, q, h, h', hpq, hs, σ, g2, g3, g4, g7, gb, gb4 => by
    refine WP.round ⟨[(2, vB pl), (3, .box 3 0), (4, .box 4 0), (7, vI p.length)], [(3, mV a), (4, mV b)]⟩ ⟨⟨.inl g2.symm, .inl g3.symm, .inl g4.symm, .inl g7.symm, trivial⟩, ⟨WkB.box gb, WkB.box gb4, trivial⟩⟩ ?_
    have hlen : a.is.length = p.length + r.length := by rw [h]; simp
    cases r with
    | nil =>
      refine WP.iteF (by simp at hlen; simp; omega) ?_
      exact WP.leaf ⟨smEx pl a b, ⟨⟨.inl rfl, .inl rfl, .inl rfl, trivial⟩, ⟨WkB.box rfl, WkB.box rfl, trivial⟩⟩, hE⟩
    | cons x r =>
      obtain ⟨y, s, rfl, hxy, hs⟩ := hs
      simp only [List.length_cons] at hlen
      have hnext : ∀ σ : St, getT σ.t 2 = vB pl → getT σ.t 3 = .box 3 0 → getT σ.t 4 = .box 4 0 → getT σ.t 7 = vI (IntKind.i64.wrap ((p.length : Int) + 1)) → getB σ.b 3 = some (mV a) → getB σ.b 4 = some (mV b) → WP X (.loop (lp Tryz.f13 0) σ K) Q := fun σ g2 g3 g4 g7 gb gb4 => by
        refine sameI_loop pl a b hk K Q hE r (p ++ [x]) s (q ++ [y]) (by rw [h]; simp) (by rw [h']; simp) (by simp [hpq]) hs σ g2 g3 g4 ?_ gb gb4
        rw [g7, wrapI (by omega) (by omega)]; simp
      refine WP.iteT (by simp; omega) ?_
      refine WP.asrt (by kernel_rfl) ?_
      refine WP.idx _ (by omega) (map_get _ h) ?_
      refine WP.idx _ (by omega) (by rw [hpq]; exact map_get _ h') ?_
      obtain ⟨xp, xn, xa⟩ := x
      obtain ⟨yp, yn, ya⟩ := y
      obtain ⟨h1, h2, ha⟩ := hxy
      dsimp only at h1 h2 ha
      subst h1 h2
      cases pl with
      | true =>
        have ha := ha rfl
        subst ha
        repeat first | refine WP.iteF (by first | (simp; done) | (simp; omega)) ?_ | refine WP.iteT (by first | (simp; done) | (simp; omega)) ?_ | refine WP.asrt (by kernel_rfl) ?_
        refine WP.leaf ?_
        exact hnext _ rfl rfl rfl rfl rfl rfl
      | false =>
        repeat first | refine WP.iteF (by first | (simp; done) | (simp; omega)) ?_ | refine WP.iteT (by first | (simp; done) | (simp; omega)) ?_ | refine WP.asrt (by kernel_rfl) ?_
        refine WP.leaf ?_
        exact hnext _ rfl rfl rfl rfl rfl rfl
theorem sameC_loop (pl : Bool) (a b : TMod) (hk : a.cs.length ≤ 1000000000) (hsm : ∀ c ∈ a.cs, smE c.e) (K : Ex → St → Id.T Out) (Q : Out → Prop) (hE : WP X (K (.exit 2) (smEx pl a b)) Q) :
    ∀ (r p s q : List TCons), a.cs = p ++ r → b.cs = q ++ s → p.length = q.length → All2 (eqC pl) r s → ∀ σ : St, getT σ.t 2 = vB pl → getT σ.t 3 = .box 3 0 → getT σ.t 4 = .box 4 0 → getT σ.t 10 = vI p.length → getB σ.b 3 = some (mV a) → getB σ.b 4 = some (mV b) → WP X (.loop (lp Tryz.f13 1) σ K) Q
  | r, p, s, q, h, h', hpq, hs, σ, g2, g3, g4, g7, gb, gb4 => by
    refine WP.round ⟨[(2, vB pl), (3, .box 3 0), (4, .box 4 0), (10, vI p.length)], [(3, mV a), (4, mV b)]⟩ ⟨⟨.inl g2.symm, .inl g3.symm, .inl g4.symm, .inl g7.symm, trivial⟩, ⟨WkB.box gb, WkB.box gb4, trivial⟩⟩ ?_
    have hlen : a.cs.length = p.length + r.length := by rw [h]; simp
    cases r with
    | nil =>
      refine WP.iteF (by simp at hlen; simp; omega) ?_
      exact WP.leaf ⟨smEx pl a b, ⟨⟨.inl rfl, .inl rfl, .inl rfl, trivial⟩, ⟨WkB.box rfl, WkB.box rfl, trivial⟩⟩, hE⟩
    | cons x r =>
      obtain ⟨y, s, rfl, hxy, hs⟩ := hs
      simp only [List.length_cons] at hlen
      have hnext : ∀ σ : St, getT σ.t 2 = vB pl → getT σ.t 3 = .box 3 0 → getT σ.t 4 = .box 4 0 → getT σ.t 10 = vI (IntKind.i64.wrap ((p.length : Int) + 1)) → getB σ.b 3 = some (mV a) → getB σ.b 4 = some (mV b) → WP X (.loop (lp Tryz.f13 1) σ K) Q := fun σ g2 g3 g4 g7 gb gb4 => by
        refine sameC_loop pl a b hk hsm K Q hE r (p ++ [x]) s (q ++ [y]) (by rw [h]; simp) (by rw [h']; simp) (by simp [hpq]) hs σ g2 g3 g4 ?_ gb gb4
        rw [g7, wrapI (by omega) (by omega)]; simp
      have hx := same_does (X := X) pl (SizeOf.sizeOf x.e + 1) x.e y.e (Nat.lt_succ_self _) (hsm x (by rw [h]; simp)) hxy.2.2.2
      refine WP.iteT (by simp; omega) ?_
      refine WP.asrt (by kernel_rfl) ?_
      refine WP.idx _ (by omega) (map_get _ h) ?_
      refine WP.idx _ (by omega) (by rw [hpq]; exact map_get _ h') ?_
      obtain ⟨xn, xe, xa, xx⟩ := x
      obtain ⟨yn, ye, ya, yy⟩ := y
      obtain ⟨h1, h2, ha, -⟩ := hxy
      dsimp only at h1 h2 ha hx
      subst h1 h2
      cases pl with
      | true =>
        have ha := ha rfl
        subst ha
        repeat first | refine WP.iteF (by first | (simp; done) | (simp; omega)) ?_ | refine WP.iteT (by first | (simp; done) | (simp; omega)) ?_ | refine WP.asrt (by kernel_rfl) ?_ | refine WP.use1 hx ?_
        refine WP.leaf ?_
        exact hnext _ rfl rfl rfl rfl rfl rfl
      | false =>
        repeat first | refine WP.iteF (by first | (simp; done) | (simp; omega)) ?_ | refine WP.iteT (by first | (simp; done) | (simp; omega)) ?_ | refine WP.asrt (by kernel_rfl) ?_ | refine WP.use1 hx ?_
        refine WP.leaf ?_
        exact hnext _ rfl rfl rfl rfl rfl rfl
abbrev fV (f : TFunc) : List V := [vS f.nm, vB f.ex, vI f.a, .d (.sl 2 (psD f.ps)), vI f.res, .d (.sl 16 (ssAll f.body))]
theorem sameP_loop {β : Type} (pl : Bool) (a b : TMod) (f g : TFunc) (hk : f.ps.length ≤ 1000000000) (hfg : f.ps = g.ps) (n13 : Int) (K : Ex → St → Id.T β) (Q : β → Prop) (hE : WP X (K (.exit 6) ⟨[(2, vB pl), (3, .box 3 0), (4, .box 4 0), (13, vI n13)], [(3, mV a), (4, mV b)]⟩) Q) :
    ∀ (r p : List TParam), f.ps = p ++ r → ∀ σ : St, getT σ.t 2 = vB pl → getT σ.t 3 = .box 3 0 → getT σ.t 4 = .box 4 0 → getT σ.t 13 = vI n13 → getT σ.t 14 = .box 14 0 → getT σ.t 15 = .box 15 0 → getT σ.t 16 = vI p.length → getB σ.b 3 = some (mV a) → getB σ.b 4 = some (mV b) → getB σ.b 14 = some (fV f) → getB σ.b 15 = some (fV g) → WP X (.loop (lp Tryz.f13 3) σ K) Q
  | r, p, h, σ, g2, g3, g4, g13, g14, g15, g16, gb3, gb4, gb14, gb15 => by
    refine WP.round ⟨[(2, vB pl), (3, .box 3 0), (4, .box 4 0), (13, vI n13), (14, .box 14 0), (15, .box 15 0), (16, vI p.length)], [(3, mV a), (4, mV b), (14, fV f), (15, fV g)]⟩ ⟨⟨.inl g2.symm, .inl g3.symm, .inl g4.symm, .inl g13.symm, .inl g14.symm, .inl g15.symm, .inl g16.symm, trivial⟩, ⟨WkB.box gb3, WkB.box gb4, WkB.box gb14, WkB.box gb15, trivial⟩⟩ ?_
    have hlen : f.ps.length = p.length + r.length := by rw [h]; simp
    cases r with
    | nil =>
      refine WP.iteF (by simp at hlen; simp; omega) ?_
      exact WP.leaf ⟨⟨[(2, vB pl), (3, .box 3 0), (4, .box 4 0), (13, vI n13)], [(3, mV a), (4, mV b)]⟩, ⟨⟨.inl rfl, .inl rfl, .inl rfl, .inl rfl, trivial⟩, ⟨WkB.box rfl, WkB.box rfl, trivial⟩⟩, hE⟩
    | cons x r =>
      simp only [List.length_cons] at hlen
      refine WP.iteT (by simp; omega) ?_
      refine WP.asrt (by kernel_rfl) ?_
      refine WP.idx _ (by omega) (map_get pD h) ?_
      refine WP.idx _ (by omega) (map_get pD (hfg ▸ h)) ?_
      try refine WP.asrt (by kernel_rfl) ?_
      refine WP.iteF (by simp) ?_
      refine WP.leaf ?_
      refine sameP_loop pl a b f g hk hfg n13 K Q hE r (p ++ [x]) (by rw [h]; simp) _ rfl rfl rfl rfl rfl rfl ?_ rfl rfl rfl rfl
      show vI (IntKind.i64.wrap ((p.length : Int) + 1)) = _
      rw [wrapI (by omega) (by omega)]; simp
theorem sameF_loop (pl : Bool) (a b : TMod) (hk : a.fs.length ≤ 1000000000) (hsm : ∀ f ∈ a.fs, SmF f) (K : Ex → St → Id.T Out) (Q : Out → Prop) (hE : WP X (K (.exit 4) ⟨[], []⟩) Q) :
    ∀ (r p s q : List TFunc), a.fs = p ++ r → b.fs = q ++ s → p.length = q.length → All2 (eqF pl) r s → ∀ σ : St, getT σ.t 2 = vB pl → getT σ.t 3 = .box 3 0 → getT σ.t 4 = .box 4 0 → getT σ.t 13 = vI p.length → getB σ.b 3 = some (mV a) → getB σ.b 4 = some (mV b) → WP X (.loop (lp Tryz.f13 2) σ K) Q
  | r, p, s, q, h, h', hpq, hs, σ, g2, g3, g4, g7, gb, gb4 => by
    refine WP.round ⟨[(2, vB pl), (3, .box 3 0), (4, .box 4 0), (13, vI p.length)], [(3, mV a), (4, mV b)]⟩ ⟨⟨.inl g2.symm, .inl g3.symm, .inl g4.symm, .inl g7.symm, trivial⟩, ⟨WkB.box gb, WkB.box gb4, trivial⟩⟩ ?_
    have hlen : a.fs.length = p.length + r.length := by rw [h]; simp
    cases r with
    | nil =>
      refine WP.iteF (by simp at hlen; simp; omega) ?_
      exact WP.leaf ⟨⟨[], []⟩, ⟨trivial, trivial⟩, hE⟩
    | cons x r =>
      obtain ⟨y, s, rfl, hxy, hs⟩ := hs
      simp only [List.length_cons] at hlen
      have hsx := hsm x (by rw [h]; simp)
      have hnext : ∀ σ : St, getT σ.t 2 = vB pl → getT σ.t 3 = .box 3 0 → getT σ.t 4 = .box 4 0 → getT σ.t 13 = vI (IntKind.i64.wrap ((p.length : Int) + 1)) → getB σ.b 3 = some (mV a) → getB σ.b 4 = some (mV b) → WP X (.loop (lp Tryz.f13 2) σ K) Q := fun σ g2 g3 g4 g7 gb gb4 => by
        refine sameF_loop pl a b hk hsm K Q hE r (p ++ [x]) s (q ++ [y]) (by rw [h]; simp) (by rw [h']; simp) (by simp [hpq]) hs σ g2 g3 g4 ?_ gb gb4
        rw [g7, wrapI (by omega) (by omega)]; simp
      have hx := stmts_same (X := X) pl (SizeOf.sizeOf x.body + 1) x.body y.body (Nat.lt_succ_self _) hsx.body hsx.nb hxy.2.2.2.2.2
      refine WP.iteT (by simp; omega) ?_
      refine WP.asrt (by kernel_rfl) ?_
      refine WP.idx _ (by omega) (map_get _ h) ?_
      refine WP.idx _ (by omega) (by rw [hpq]; exact map_get _ h') ?_
      have hps := sameP_loop (X := X) (β := Out) pl a b
      obtain ⟨xn, xe, xa, xp, xr, xb⟩ := x
      obtain ⟨yn, ye, ya, yp, yr, yb⟩ := y
      obtain ⟨h1, h2, ha, h3, h4, -⟩ := hxy
      have hnp := hsx.np
      clear hsx
      dsimp only at h1 h2 ha h3 h4 hx hnp
      subst h1 h2 h3 h4
      cases pl with
      | true =>
        have ha := ha rfl
        subst ha
        repeat first | refine WP.iteF (by first | (simp; done) | (simp; omega)) ?_ | refine WP.iteT (by first | (simp; done) | (simp; omega)) ?_ | refine WP.asrt (by kernel_rfl) ?_ | refine WP.use1 hx ?_
        refine sameP_loop true a b ⟨xn, xe, xa, xp, xr, xb⟩ ⟨xn, xe, xa, xp, xr, yb⟩ hnp rfl p.length _ _ ?_ xp [] rfl _ rfl rfl rfl rfl rfl rfl rfl rfl rfl rfl rfl
        refine WP.leaf ?_
        exact hnext _ rfl rfl rfl rfl rfl rfl
      | false =>
        repeat first | refine WP.iteF (by first | (simp; done) | (simp; omega)) ?_ | refine WP.iteT (by first | (simp; done) | (simp; omega)) ?_ | refine WP.asrt (by kernel_rfl) ?_ | refine WP.use1 hx ?_
        refine sameP_loop false a b ⟨xn, xe, xa, xp, xr, xb⟩ ⟨xn, xe, ya, xp, xr, yb⟩ hnp rfl p.length _ _ ?_ xp [] rfl _ rfl rfl rfl rfl rfl rfl rfl rfl rfl rfl rfl
        refine WP.leaf ?_
        exact hnext _ rfl rfl rfl rfl rfl rfl
theorem sameM_does (pl : Bool) (a b : TMod) (ha : SmM a) (h : EqM pl a b) : Does X 13 [.agg (mD a), .agg (mD b), vB pl] [] (.ret (vB true) []) := by
  refine DoesQ.eq (DoesQ.of Tryz.func13 (by kernel_rfl) ?_)
  have l1 := h.is.len
  have l2 := h.cs.len
  have l3 := h.fs.len
  repeat first | refine WP.iteF (by first | (simp; done) | (simp [l1, l2, l3]; done) | (simp; omega)) ?_ | refine WP.iteT (by first | (simp; done) | (simp; omega)) ?_ | refine WP.asrt (by kernel_rfl) ?_
  refine sameI_loop pl a b ha.ni _ _ ?_ a.is [] b.is [] rfl rfl rfl h.is _ rfl rfl rfl rfl rfl rfl
  refine sameC_loop pl a b ha.nc (fun c hc => (ha.cs c hc).2) _ _ ?_ a.cs [] b.cs [] rfl rfl rfl h.cs _ rfl rfl rfl rfl rfl rfl
  refine sameF_loop pl a b ha.nf ha.fs _ _ ?_ a.fs [] b.fs [] rfl rfl rfl h.fs _ rfl rfl rfl rfl rfl rfl
  exact WP.leaf rfl
end Go.Proofs.YtacfbgfphkfobaaGreatDoor.Id
/-! ## PaPl -/
namespace Go.Proofs.YtacfbgfphkfobaaGreatDoor.Id
open Go
set_option linter.unusedVariables false
set_option linter.unusedSimpArgs false
/-- the same token, places aside -/
def Tl (t t' : Tk) : Prop := t.k = t'.k ∧ t.s = t'.s
abbrev TlL : List Tk → List Tk → Prop := All2 Tl
def RsR {α β : Type} (R : α → β → Prop) : Rs α → Rs β → Prop
  | .ok x l, r => ∃ y m, r = .ok y m ∧ R x y ∧ TlL l m
  | .more, r => r = .more
  | .err e l, r => ∃ m, r = .err e m ∧ TlL l m
  | .out, r => r = .out
def Pl {α β : Type} (R : α → β → Prop) (p : Gr α) (q : Gr β) : Prop := ∀ l m, TlL l m → RsR R (runG p l) (runG q m)
section
variable {α β γ δ : Type} {R : α → β → Prop} {Q : γ → δ → Prop}
theorem Pl.ret {x : α} {y : β} (h : R x y) : Pl R (.ret x) (.ret y) := fun l m hl => ⟨y, m, rfl, h, hl⟩
theorem Pl.err (e : Nat) : Pl R (.err e) (.err e) := fun l m hl => ⟨m, rfl, hl⟩
theorem Pl.out : Pl R (.out) (.out) := fun l m hl => rfl
theorem Pl.look {f : Tk → Gr α} {g : Tk → Gr β} (h : ∀ k a a' s, Pl R (f ⟨k, a, s⟩) (g ⟨k, a', s⟩)) : Pl R (.look f) (.look g) := fun l m hl => by
  cases l with
  | nil => have : m = [] := hl; subst this; rfl
  | cons t r =>
    obtain ⟨t', r', rfl, ⟨h1, h2⟩, hr⟩ := hl
    obtain ⟨k, a, s⟩ := t
    obtain ⟨k', a', s'⟩ := t'
    simp only at h1 h2
    subst h1 h2
    exact h k a a' s _ _ ⟨_, _, rfl, ⟨rfl, rfl⟩, hr⟩
theorem Pl.next {p : Gr α} {q : Gr β} (h : Pl R p q) : Pl R (.next p) (.next q) := fun l m hl => by
  cases l with
  | nil => have : m = [] := hl; subst this; rfl
  | cons t r =>
    obtain ⟨t', r', rfl, _, hr⟩ := hl
    cases r with
    | nil => have : r' = [] := hr; subst this; rfl
    | cons u r => obtain ⟨u', r2, rfl, h1, h2⟩ := hr; exact h _ _ ⟨_, _, rfl, h1, h2⟩
theorem Pl.bind {p : Gr γ} {q : Gr δ} {f : γ → Gr α} {g : δ → Gr β} (h : Pl Q p q) (k : ∀ x y, Q x y → Pl R (f x) (g y)) : Pl R (p.bind f) (q.bind g) := fun l m hl => by
  rw [runG_bind, runG_bind]
  have := h l m hl
  cases hp : runG p l with
  | ok x l2 => rw [hp] at this; obtain ⟨y, m2, e, h1, h2⟩ := this; rw [e]; exact k x y h1 _ _ h2
  | more => rw [hp] at this; have e : runG q m = .more := this; rw [e]; rfl
  | err c l2 => rw [hp] at this; obtain ⟨m2, e, h2⟩ := this; rw [e]; exact ⟨m2, rfl, h2⟩
  | out => rw [hp] at this; have e : runG q m = .out := this; rw [e]; rfl
theorem Pl.bool {b : Bool} {p q : Gr α} {p' q' : Gr β} (h1 : Pl R p p') (h2 : Pl R q q') : Pl R (match b with | true => p | false => q) (match b with | true => p' | false => q') := by cases b <;> assumption
theorem Pl.bool' {b : Bool} {p q : Gr α} {p' q' : Gr β} (h1 : Pl R p p') (h2 : Pl R q q') : Pl R (match b with | false => q | true => p) (match b with | false => q' | true => p') := by cases b <;> assumption
theorem Pl.is {x : ByteArray} {p q : Gr α} {p' q' : Gr β} (h1 : Pl R p p') (h2 : Pl R q q') : Pl R ((gIs x).bind fun | true => p | false => q) ((gIs x).bind fun | true => p' | false => q') :=
  .bind (Q := Eq) (.look fun k a a' s => .ret rfl) fun b b' h => by subst h; cases b <;> assumption
theorem Pl.is' {x : ByteArray} {p q : Gr α} {p' q' : Gr β} (h1 : Pl R p p') (h2 : Pl R q q') : Pl R ((gIs x).bind fun | false => q | true => p) ((gIs x).bind fun | false => q' | true => p') :=
  .bind (Q := Eq) (.look fun k a a' s => .ret rfl) fun b b' h => by subst h; cases b <;> assumption
end
abbrev Tru {α β : Type} : α → β → Prop := fun _ _ => True
abbrev EqW : ByteArray × Nat → ByteArray × Nat → Prop := fun x y => x.1 = y.1
theorem pl_must (x : ByteArray) : Pl Tru (gMust x) (gMust x) := .look fun k a a' s => .bool (.next (.ret trivial)) (.err _)
theorem pl_of (n : Nat) : Pl EqW (gOf n) (gOf n) := .look fun k a a' s => .bool (.next (.ret rfl)) (.err _)
theorem pl_open (x : ByteArray) (d : Nat) : Pl Tru (gOpen x d) (gOpen x d) := .look fun k a a' s => .bool (.bool (.err _) (.next (.ret trivial))) (.err _)
theorem pl_sep (n : Nat) : Pl Tru (gSep n) (gSep n) := .bool (.bind (pl_must _) fun _ _ _ => .ret trivial) (.ret trivial)
theorem pl_type : Pl Eq pType pType := .look fun k a a' s => .bool (.next (.ret rfl)) (.err _)
abbrev eE : TExpr → TExpr → Prop := eqE false
abbrev eEs : List TExpr → List TExpr → Prop := eqEs false
theorem eE_mk {k a a' : Int} {of nm : ByteArray} {v : TVal} {op : Int} {l l' : List TExpr} (h : eEs l l') : eE (.mk k a of nm v op l) (.mk k a' of nm v op l') := by
  show eqE false _ _
  rw [eqE]; exact ⟨rfl, (fun h => by cases h), rfl, rfl, rfl, rfl, h⟩
theorem eEs_nil : eEs [] [] := by show eqEs false _ _; rw [eqEs]
theorem eEs_cons {x y : TExpr} {l m : List TExpr} (h : eE x y) (h2 : eEs l m) : eEs (x :: l) (y :: m) := by
  show eqEs false _ _
  rw [eqEs]; exact ⟨y, m, rfl, h, h2⟩
theorem eEs_app : ∀ {l m : List TExpr} {x y : TExpr}, eEs l m → eE x y → eEs (l ++ [x]) (m ++ [y])
  | [], m, x, y, h, h2 => by
    have h : eqEs false [] m := h
    rw [eqEs] at h; subst h; exact eEs_cons h2 eEs_nil
  | z :: l, m, x, y, h, h2 => by
    have h : eqEs false (z :: l) m := h
    rw [eqEs] at h
    obtain ⟨w, m, rfl, h3, h4⟩ := h
    exact eEs_cons h3 (eEs_app h4 h2)
theorem eE_bin {a a' : Nat} {s : ByteArray} {x y x' y' : TExpr} (h : eE x x') (h2 : eE y y') : eE (bin a s x y) (bin a' s x' y') := eE_mk (eEs_cons h (eEs_cons h2 eEs_nil))
theorem eE_una {a a' : Nat} {s : ByteArray} {x x' : TExpr} (h : eE x x') : eE (una a s x) (una a' s x') := eE_mk (eEs_cons h eEs_nil)
theorem plE : ∀ n, (∀ k d, Pl eE (pLine n k d) (pLine n k d)) ∧ (∀ k d e e', eE e e' → Pl eE (pTail n k d e) (pTail n k d e')) ∧ (∀ d, Pl eE (pUnary n d) (pUnary n d)) ∧ (∀ d, Pl eE (pPrim n d) (pPrim n d)) ∧ (∀ d a a' of nm, Pl eE (pName n d a of nm) (pName n d a' of nm)) ∧ (∀ d, Pl eEs (pArgs n d) (pArgs n d)) ∧ (∀ d l l', eEs l l' → Pl eEs (pArgl n d l) (pArgl n d l'))
  | 0 => ⟨fun _ _ => .out, fun _ _ _ _ _ => .out, fun _ => .out, fun _ => .out, fun _ _ _ _ _ => .out, fun _ => .out, fun _ _ _ _ => .out⟩
  | n + 1 => by
    obtain ⟨h1, h2, h3, h4, h5, h6, h7⟩ := plE n
    refine ⟨fun k d => ?_, fun k d e e' he => ?_, fun d => ?_, fun d => ?_, fun d a a' of nm => ?_, fun d => ?_, fun d l l' hl => ?_⟩
    · rw [pLine]; exact .bool (h3 d) (.bind (h1 _ _) fun e e' he => h2 _ _ _ _ he)
    · rw [pTail, pTail]; exact .look fun k2 a a' s => .bool (.next (.bind (h1 _ _) fun e2 e2' he2 => .bool (.ret (eE_bin he he2)) (h2 _ _ _ _ (eE_bin he he2)))) (.ret he)
    · rw [pUnary]; exact .look fun k a a' s => .bool (.bool (.err _) (.next (.bind (h3 _) fun e e' he => .ret (eE_una he)))) (h4 d)
    · rw [pPrim]
      exact .look fun k a a' s => .bool (.next (.ret (eE_mk eEs_nil))) (.bool (.next (.ret (eE_mk eEs_nil))) (.bool (.next (.ret (eE_mk eEs_nil))) (.bool (.bind (pl_open _ _) fun _ _ _ => .bind (h1 _ _) fun e e' he => .bind (pl_must _) fun _ _ _ => .ret he)
        (.bind (pl_of 1) fun w w' hw => .is (.next (.bind (pl_of 1) fun w2 w2' hw2 => by
          have hw : w.1 = w'.1 := hw
          have hw2 : w2.1 = w2'.1 := hw2
          rw [hw, hw2]; exact h5 _ _ _ _ _)) (by
          have hw : w.1 = w'.1 := hw
          rw [hw]; exact h5 _ _ _ _ _)))))
    · rw [pName, pName]; exact .is (.bind (h6 d) fun l l' hl => .ret (eE_mk hl)) (.ret (eE_mk eEs_nil))
    · rw [pArgs]; exact .bind (pl_open _ _) fun _ _ _ => h7 _ _ _ eEs_nil
    · rw [pArgl, pArgl, eqEs_len hl]; exact .is (.next (.ret hl)) (.bind (pl_sep _) fun _ _ _ => .bind (h1 _ _) fun e e' he => h7 _ _ _ (eEs_app hl he))
theorem pl_line {n k d : Nat} : Pl eE (pLine n k d) (pLine n k d) := (plE n).1 k d
theorem pl_args {n d : Nat} : Pl eEs (pArgs n d) (pArgs n d) := (plE n).2.2.2.2.2.1 d
abbrev eS : TStmt → TStmt → Prop := eqS false
abbrev eSs : List TStmt → List TStmt → Prop := eqSs false
theorem eS_mk {k a a' : Int} {nm : ByteArray} {e e' : TExpr} {b b' l l' : List TStmt} {he : Bool} (h : eE e e') (h2 : eSs b b') (h3 : eSs l l') : eS (.mk k a nm e b l he) (.mk k a' nm e' b' l' he) := by
  show eqS false _ _
  rw [eqS]; exact ⟨rfl, (fun h => by cases h), rfl, h, h2, h3, rfl⟩
theorem eSs_nil : eSs [] [] := by show eqSs false _ _; rw [eqSs]
theorem eSs_cons {x y : TStmt} {l m : List TStmt} (h : eS x y) (h2 : eSs l m) : eSs (x :: l) (y :: m) := by
  show eqSs false _ _
  rw [eqSs]; exact ⟨y, m, rfl, h, h2⟩
theorem eSs_app : ∀ {l m : List TStmt} {x y : TStmt}, eSs l m → eS x y → eSs (l ++ [x]) (m ++ [y])
  | [], m, x, y, h, h2 => by
    have h : eqSs false [] m := h
    rw [eqSs] at h; subst h; exact eSs_cons h2 eSs_nil
  | z :: l, m, x, y, h, h2 => by
    have h : eqSs false (z :: l) m := h
    rw [eqSs] at h
    obtain ⟨w, m, rfl, h3, h4⟩ := h
    exact eSs_cons h3 (eSs_app h4 h2)
theorem pl_semi {s s' : TStmt} (h : eS s s') : Pl eS (gSemi s) (gSemi s') := .bind (pl_must _) fun _ _ _ => .ret h
abbrev EqN : Int × ByteArray × TExpr → Int × ByteArray × TExpr → Prop := fun x y => x.1 = y.1 ∧ x.2.1 = y.2.1 ∧ eE x.2.2 y.2.2
theorem pl_named {n d : Nat} : Pl EqN (pNamed n d) (pNamed n d) := .bind (pl_of 1) fun w w' hw => by
  have hw : w.1 = w'.1 := hw
  rw [hw]
  exact .is (.next (.bind pl_line fun e e' he => .ret ⟨rfl, rfl, he⟩)) (.is (.next (.bind (pl_of 1) fun w2 w2' hw2 => .bind pl_args fun l l' hl => .ret ⟨rfl, rfl, by
    have hw2 : w2.1 = w2'.1 := hw2
    rw [hw2]; exact eE_mk hl⟩)) (.bind pl_args fun l l' hl => .ret ⟨rfl, rfl, eE_mk hl⟩))
theorem plS : ∀ n, (∀ d, Pl eSs (pBlock n d) (pBlock n d)) ∧ (∀ d l l', eSs l l' → Pl eSs (pStmts n d l) (pStmts n d l')) ∧ (∀ d, Pl eS (pStmt n d) (pStmt n d)) ∧ (∀ d, Pl eS (pBranch n d) (pBranch n d))
  | 0 => ⟨fun _ => .out, fun _ _ _ _ => .out, fun _ => .out, fun _ => .out⟩
  | n + 1 => by
    obtain ⟨h1, h2, h3, h4⟩ := plS n
    refine ⟨fun d => ?_, fun d l l' hl => ?_, fun d => ?_, fun d => ?_⟩
    · rw [pBlock]; exact .bind (pl_open _ _) fun _ _ _ => h2 _ _ _ eSs_nil
    · rw [pStmts, pStmts]; exact .is (.next (.ret hl)) (.bind (h3 d) fun s s' hs => h2 _ _ _ (eSs_app hl hs))
    · rw [pStmt]
      exact .look fun k a a' s => .bool (.next (.bind (pl_of 1) fun w w' hw => .bind (pl_must _) fun _ _ _ => .bind pl_line fun e e' he => by
          have hw : w.1 = w'.1 := hw
          rw [hw]; exact pl_semi (eS_mk he eSs_nil eSs_nil))) (.bool (h4 d) (.bool (.next (.bind pl_line fun e e' he => .bind (h1 d) fun b b' hb => .ret (eS_mk he hb eSs_nil)))
        (.bool (.next (.is (pl_semi (eS_mk (eqE_refl _ _) eSs_nil eSs_nil)) (.bind pl_line fun e e' he => pl_semi (eS_mk he eSs_nil eSs_nil)))) (.bool (.next (.bind pl_line fun e e' he => pl_semi (eS_mk he eSs_nil eSs_nil))) (.bind pl_named fun x y hxy => by
          obtain ⟨x1, x2, x3⟩ := x
          obtain ⟨y1, y2, y3⟩ := y
          obtain ⟨h5, h6, h7⟩ := hxy
          simp only at h5 h6
          subst h5 h6
          exact pl_semi (eS_mk h7 eSs_nil eSs_nil))))))
    · rw [pBranch]
      exact .bind (pl_must _) fun a a' _ => .bind pl_line fun e e' he => .bind (h1 d) fun b b' hb => .is' (.next (.is (.bind (h4 d) fun s s' hs => .ret (eS_mk he hb (eSs_cons hs eSs_nil))) (.bind (h1 d) fun l l' hl => .ret (eS_mk he hb hl)))) (.ret (eS_mk he hb eSs_nil))
theorem pl_block {n d : Nat} : Pl eSs (pBlock n d) (pBlock n d) := (plS n).1 d
theorem pl_param : Pl Eq pParam pParam := .bind (pl_of 1) fun w w' hw => .bind (pl_must _) fun _ _ _ => .bind pl_type fun t t' ht => .ret (by
  have hw : w.1 = w'.1 := hw
  rw [hw, ht])
theorem pl_params : ∀ n l, Pl Eq (pParams n l) (pParams n l)
  | 0, l => .out
  | n + 1, l => by rw [pParams]; exact .is (.next (.ret rfl)) (.bind (pl_sep _) fun _ _ _ => .bind pl_param fun x y hxy => by subst hxy; exact pl_params n _)
theorem pl_func {n : Nat} {ex : Bool} : Pl (eqF false) (pFunc n ex) (pFunc n ex) := .bind (pl_must _) fun _ _ _ => .bind (pl_of 1) fun w w' hw => .bind (pl_open _ _) fun _ _ _ => .bind (pl_params _ _) fun ps ps' hps => by
  have hw : w.1 = w'.1 := hw
  subst hps
  exact .is (.next (.bind pl_type fun t t' ht => by subst ht; exact .bind pl_block fun b b' hb => .ret ⟨hw, rfl, (fun h => by cases h), rfl, rfl, hb⟩)) (.bind pl_block fun b b' hb => .ret ⟨hw, rfl, (fun h => by cases h), rfl, rfl, hb⟩)
theorem pl_const {n : Nat} {ex : Bool} : Pl (eqC false) (pConst n ex) (pConst n ex) := .bind (pl_must _) fun _ _ _ => .bind (pl_of 1) fun w w' hw => .bind (pl_must _) fun _ _ _ => .bind pl_line fun e e' he => .bind (pl_must _) fun _ _ _ => .ret ⟨hw, rfl, (fun h => by cases h), he⟩
theorem pl_incl : Pl (eqI false) pIncl pIncl := .bind (pl_must _) fun _ _ _ => .bind (pl_of 3) fun w w' hw => .bind (pl_must _) fun _ _ _ => .bind (pl_of 1) fun w2 w2' hw2 => .bind (pl_must _) fun _ _ _ => .ret ⟨congrArg txtZ hw, hw2, fun h => by cases h⟩
theorem All2.app {α : Type} {R : α → α → Prop} : ∀ {l m : List α} {x y : α}, All2 R l m → R x y → All2 R (l ++ [x]) (m ++ [y])
  | [], m, x, y, h, h2 => by have : m = [] := h; subst this; exact ⟨y, [], rfl, h2, rfl⟩
  | z :: l, m, x, y, h, h2 => by
    obtain ⟨w, m, rfl, h3, h4⟩ := h
    exact ⟨w, m ++ [y], rfl, h3, All2.app h4 h2⟩
theorem pl_incls : ∀ n l l', All2 (eqI false) l l' → Pl (All2 (eqI false)) (pIncls n l) (pIncls n l')
  | 0, l, l', h => .out
  | n + 1, l, l', h => by rw [pIncls, pIncls]; exact .is (.bind pl_incl fun x y hxy => pl_incls n _ _ (h.app hxy)) (.ret h)
theorem pl_decl {k : TMod → Gr TMod} {n : Nat} {ex : Bool} {m m' : TMod} (h : EqM false m m') (hk : ∀ m m', EqM false m m' → Pl (EqM false) (k m) (k m')) : Pl (EqM false) (pDecl k n ex m) (pDecl k n ex m') :=
  .look fun k a a' s => .bool (.bind pl_const fun c c' hc => hk _ _ ⟨h.is, h.cs.app hc, h.fs⟩) (.bool (.bind pl_func fun f f' hf => hk _ _ ⟨h.is, h.cs, h.fs.app hf⟩) (.err _))
theorem pl_decls : ∀ n m m', EqM false m m' → Pl (EqM false) (pDecls n m) (pDecls n m')
  | 0, m, m', h => .out
  | n + 1, m, m', h => by rw [pDecls, pDecls]; exact .look fun k a a' s => .bool (.ret h) (.bool (.next (pl_decl h fun m m' h => pl_decls n m m' h)) (pl_decl h fun m m' h => pl_decls n m m' h))
theorem pl_module {n : Nat} : Pl (EqM false) (pModule n) (pModule n) := .bind (pl_incls n [] [] rfl) fun l l' hl => pl_decls n _ _ ⟨hl, rfl, rfl⟩
theorem pl_end {α : Type} {R : α → α → Prop} {p : Gr α} (h : Pl R p p) : Pl R (pEnd p) (pEnd p) := .bind h fun x y hxy => .look fun k a a' s => .bool (.ret hxy) (.err _)
theorem pl_L {α β : Type} {R : α → β → Prop} {p : Gr α} {q : Gr β} (h : Pl R p q) {l m : List Tk} (hl : TlL l m) : RsR R (runL p l) (runL q m) := by
  cases l with
  | nil => have : m = [] := hl; subst this; rfl
  | cons t r =>
    have hl' := hl
    obtain ⟨t', r', rfl, _, hr⟩ := hl
    exact h _ _ hl'
end Go.Proofs.YtacfbgfphkfobaaGreatDoor.Id
/-! ## PaFuA -/
namespace Go.Proofs.YtacfbgfphkfobaaGreatDoor.Id
open Go
set_option linter.unusedVariables false
set_option linter.unusedSimpArgs false
variable {X : Given}
/-- an answer's shape -/
def sh {α : Type} : Rs α → Rs Unit
  | .ok _ l => .ok () l
  | .more => .more
  | .err e l => .err e l
  | .out => .out
theorem sh_bind2 {α β γ δ : Type} {a : Rs α} {b : Rs β} {f : α → List Tk → Rs γ} {g : β → List Tk → Rs δ} (h : sh a = sh b) (hf : ∀ x y l, sh (f x l) = sh (g y l)) : sh (a.bind f) = sh (b.bind g) := by
  cases a <;> cases b <;> first | cases h | skip
  · exact hf _ _ _
  · rfl
  · rfl
  · rfl
theorem sh_next {α β : Type} {p : Gr α} {q : Gr β} (h : ∀ l, sh (runG p l) = sh (runG q l)) (l : List Tk) : sh (runG (.next p) l) = sh (runG (.next q) l) := by
  match l with
  | [] => rfl
  | [t] => rfl
  | t :: u :: r => exact h (u :: r)
theorem sh_decls : ∀ (n : Nat) (m m' : TMod) (l : List Tk), sh (runG (pDecls n m) l) = sh (runG (pDecls n m') l)
  | 0, m, m', l => rfl
  | n + 1, m, m', [] => rfl
  | n + 1, m, m', t :: r => by
    have hd : ∀ (ex : Bool) (l : List Tk), sh (runG (pDecl (pDecls n) n ex m) l) = sh (runG (pDecl (pDecls n) n ex m') l) := by
      intro ex l
      cases l with
      | nil => rfl
      | cons t r =>
        unfold pDecl
        rw [runG_look, runG_look]
        cases isT t kConst with
        | true =>
          simp only
          rw [runG_bind, runG_bind]
          exact sh_bind2 rfl fun x y l => sh_decls n _ _ l
        | false =>
          simp only
          cases isT t kFunc with
          | true =>
            simp only
            rw [runG_bind, runG_bind]
            exact sh_bind2 rfl fun x y l => sh_decls n _ _ l
          | false => rfl
    rw [pDecls, pDecls, runG_look, runG_look]
    cases decide (t.k = 0) with
    | true => rfl
    | false =>
      simp only
      cases isT t kExport with
      | true => exact sh_next (hd true) _
      | false => exact hd false _
theorem sh_incls {α β : Type} {h : List TIncl → Gr α} {g : List TIncl → Gr β} (hg : ∀ a b l, sh (runG (h a) l) = sh (runG (g b) l)) : ∀ (n : Nat) (a b : List TIncl) (l : List Tk), sh (runG ((pIncls n a).bind h) l) = sh (runG ((pIncls n b).bind g) l)
  | 0, a, b, l => rfl
  | n + 1, a, b, [] => rfl
  | n + 1, a, b, t :: r => by
    rw [pIncls, pIncls, gr_assoc, gr_assoc, runG_is, runG_is]
    cases isT t kInclude with
    | true =>
      simp only
      rw [gr_assoc, gr_assoc, runG_bind, runG_bind]
      have : ∀ (x y : TIncl) (l : List Tk), sh (runG ((pIncls n (a ++ [x])).bind h) l) = sh (runG ((pIncls n (b ++ [y])).bind g) l) := fun x y l => sh_incls hg n _ _ l
      exact sh_bind2 rfl fun x y l => this x y l
    | false => exact hg a b _
theorem sh_from (n : Nat) (m0 : TMod) (l : List Tk) : sh (runG (pModFrom n m0) l) = sh (runG (pModule n) l) :=
  sh_incls (fun a b l => sh_decls n _ _ l) n _ _ l
theorem sh_end {α β : Type} {p : Gr α} {q : Gr β} (h : ∀ l, sh (runG p l) = sh (runG q l)) (l : List Tk) : sh (runG (pEnd p) l) = sh (runG (pEnd q) l) := by
  unfold pEnd
  rw [runG_bind, runG_bind]
  refine sh_bind2 (h l) fun x y l => ?_
  cases l with
  | nil => rfl
  | cons t r =>
    rw [runG_look, runG_look]
    cases decide (t.k = 0) <;> rfl
theorem sh_L {α β : Type} {p : Gr α} {q : Gr β} (h : ∀ l, sh (runG p l) = sh (runG q l)) (l : List Tk) : sh (runL p l) = sh (runL q l) := by
  cases l with
  | nil => rfl
  | cons t r => exact h _
/-- a module ends at the end alone -/
theorem decls_ok : ∀ (n : Nat) (m : TMod) (l : List Tk) (x : TMod) (t : Tk) (r : List Tk), runG (pDecls n m) l = .ok x (t :: r) → t.k = 0
  | 0, m, l, x, t, r, h => by cases h
  | n + 1, m, [], x, t, r, h => by cases h
  | n + 1, m, u :: q, x, t, r, h => by
    have hd : ∀ (ex : Bool) (l : List Tk), runG (pDecl (pDecls n) n ex m) l = .ok x (t :: r) → t.k = 0 := by
      intro ex l h
      cases l with
      | nil => cases h
      | cons v q =>
        unfold pDecl at h
        rw [runG_look] at h
        cases hc : isT v kConst with
        | true =>
          rw [hc] at h
          simp only [runG_bind] at h
          cases hp : runG (pConst n ex) (v :: q) with
          | ok c l2 => rw [hp] at h; exact decls_ok n _ l2 x t r h
          | more => rw [hp] at h; cases h
          | err e l2 => rw [hp] at h; cases h
          | out => rw [hp] at h; cases h
        | false =>
          rw [hc] at h
          simp only at h
          cases hf : isT v kFunc with
          | true =>
            rw [hf] at h
            simp only [runG_bind] at h
            cases hp : runG (pFunc n ex) (v :: q) with
            | ok c l2 => rw [hp] at h; exact decls_ok n _ l2 x t r h
            | more => rw [hp] at h; cases h
            | err e l2 => rw [hp] at h; cases h
            | out => rw [hp] at h; cases h
          | false => rw [hf] at h; cases h
    rw [pDecls, runG_look] at h
    by_cases hk : u.k = 0
    · simp only [decide_eq_true hk] at h
      cases h; exact hk
    · simp only [decide_eq_false hk] at h
      cases hx : isT u kExport with
      | true =>
        rw [hx] at h
        cases q with
        | nil => cases h
        | cons v q => exact hd true (v :: q) h
      | false => rw [hx] at h; exact hd false _ h
theorem from_ok {n : Nat} {m0 : TMod} {l : List Tk} {x : TMod} {t : Tk} {r : List Tk} (h : runG (pModFrom n m0) l = .ok x (t :: r)) : t.k = 0 := by
  unfold pModFrom at h
  rw [runG_bind] at h
  cases hp : runG (pIncls n m0.is) l with
  | ok c l2 => rw [hp] at h; exact decls_ok n _ l2 x t r h
  | more => rw [hp] at h; cases h
  | err e l2 => rw [hp] at h; cases h
  | out => rw [hp] at h; cases h
abbrev erL (B : Nat) (cs : List V) : Prop := cs = m0V ∨ ∃ m, LenM B m ∧ cs = mcA base m
theorem rest_gen0 (hX : LibX X) {g : FuncId} {P : Gr TMod} {B : Nat} (hcl : Rdr X g [.box base 0, .box (base + 1) 0] (BMg m0V) 0 0 P roM (poM B)) (hk0 : ∀ l x t r, runG P l = .ok x (t :: r) → t.k = 0) (E : Env) {l : List Tk} (hc : Chain E.s 0 E.F l E.f) (hN : l.length = E.N) (hne : runL (pEnd P) l ≠ .out) :
    WP X (evCode tt none rdRest (rdT1 E.s (.fn g [] [.box base 0])) (rdB 0 0 0 (rd E.s E.F 0 0 0 0 .empty 0) m0V)) fun p => ∃ T e q cs', RdOut E (mcA base) (erL B) (runL (pEnd P) l) T e q cs' ∧ RdEnd E.s E.F T e q cs' p := by
  have hs := E.hs
  refine WP.iteF (decide_eq_false (by omega)) ?_
  refine WP.use (r_look hX E 0 0 l (by omega) (by omega) (by simpa using hN) (by simpa using hc) 0 0 0 .empty 0) fun o ho => ?_
  cases l with
  | nil =>
    obtain ⟨k, a, b, y, d, rfl⟩ := ho
    refine WP.leaf ⟨E.N, E.f.1, E.f.2, m0V, ⟨rfl, rfl, rfl, .inl rfl⟩, rfl, rfl, 0, 0, 0, k, a, b, y, d, ?_, rfl⟩
    all_mem
  | cons t r =>
    obtain ⟨T, t', r', hl, hA, rfl⟩ := ho
    obtain ⟨rfl, rfl⟩ := List.cons.inj hl
    refine WP.use (hcl E T t r hA fun h => hne ?_) fun o ho => ?_
    · show runG (pEnd P) (t :: r) = _
      unfold pEnd
      rw [runG_bind, h]; rfl
    have hne' : runG (pEnd P) (t :: r) ≠ .out := hne
    show WP X _ fun p => ∃ T e q cs', RdOut E (mcA base) (erL B) (runG (pEnd P) (t :: r)) T e q cs' ∧ RdEnd E.s E.F T e q cs' p
    unfold pEnd at hne' ⊢
    rw [runG_bind] at hne' ⊢
    cases hr : runG P (t :: r) with
    | ok m l =>
      rw [hr] at ho
      obtain ⟨T, t, r, rfl, hA, rfl⟩ := ho
      have hk : t.k = 0 := hk0 _ _ _ _ hr
      show WP X _ fun p => ∃ T' e q cs', RdOut E (mcA base) (erL B) (runG (match decide (t.k = 0) with | true => Gr.ret m | false => Gr.err 140) (t :: r)) T' e q cs' ∧ RdEnd E.s E.F T' e q cs' p
      refine WP.iteF (by simp [hk]) ?_
      refine WP.leaf ⟨T, 0, 0, mcA base m, ?_, rfl, rfl, T, 0, 0, t.k, t.a, ((t.a + t.s.size : Nat) : Int), t.s, 0, ?_, rfl, rfl⟩
      · rw [decide_eq_true hk]; exact ⟨by have := hA.n; rw [hA.z hk] at this; exact_mod_cast this, rfl, rfl, rfl⟩
      · all_mem
    | more =>
      rw [hr] at ho
      obtain ⟨k, a, b, y, d, m, hm, rfl⟩ := ho
      refine WP.leaf ⟨E.N, E.f.1, E.f.2, mcA base m, ⟨rfl, rfl, rfl, .inr ⟨m, hm, rfl⟩⟩, rfl, rfl, 0, 0, 0, k, a, b, y, d, ?_, rfl⟩
      all_mem
    | err e l =>
      rw [hr] at ho
      obtain ⟨t, r, T, k, a, b, y, d, rfl, hN, m, hm, rfl⟩ := ho
      refine WP.leaf ⟨T, (e : Nat), t.a, mcA base m, ⟨t, r, rfl, by exact_mod_cast hN, rfl, rfl, .inr ⟨m, hm, rfl⟩⟩, rfl, rfl, 0, 0, 0, k, a, b, y, d, ?_, rfl⟩
      all_mem
    | out => rw [hr] at hne'; exact absurd rfl hne'
theorem rest_gen1 (hX : LibX X) {g : FuncId} {P : Gr TMod} {B : Nat} (m0 : TMod) (hcl : Rdr X g [.box base 0, .box (base + 1) 0] (BMg (mc m0)) 0 0 P roM (poM B)) (hk0 : ∀ l x t r, runG P l = .ok x (t :: r) → t.k = 0) (E : Env) {l : List Tk} (hc : Chain E.s 0 E.F l E.f) (hN : l.length = E.N) (hne : runL (pEnd P) l ≠ .out) :
    WP X (evCode tt none rdRest (rdT1 E.s (.fn g [] [.box base 0])) (rdB 0 0 0 (rd E.s E.F 0 0 0 0 .empty 0) (mcA base m0))) fun p => ∃ T e q cs', RdOut E (mcA base) (fun cs => ∃ m, cs = mcA base m) (runL (pEnd P) l) T e q cs' ∧ RdEnd E.s E.F T e q cs' p := by
  have hs := E.hs
  refine WP.iteF (decide_eq_false (by omega)) ?_
  refine WP.use (r_look hX E 0 0 l (by omega) (by omega) (by simpa using hN) (by simpa using hc) 0 0 0 .empty 0) fun o ho => ?_
  cases l with
  | nil =>
    obtain ⟨k, a, b, y, d, rfl⟩ := ho
    refine WP.leaf ⟨E.N, E.f.1, E.f.2, mcA base m0, ⟨rfl, rfl, rfl, m0, rfl⟩, rfl, rfl, 0, 0, 0, k, a, b, y, d, ?_, rfl⟩
    all_mem
  | cons t r =>
    obtain ⟨T, t', r', hl, hA, rfl⟩ := ho
    obtain ⟨rfl, rfl⟩ := List.cons.inj hl
    refine WP.use (hcl E T t r hA fun h => hne ?_) fun o ho => ?_
    · show runG (pEnd P) (t :: r) = _
      unfold pEnd
      rw [runG_bind, h]; rfl
    have hne' : runG (pEnd P) (t :: r) ≠ .out := hne
    show WP X _ fun p => ∃ T e q cs', RdOut E (mcA base) (fun cs => ∃ m, cs = mcA base m) (runG (pEnd P) (t :: r)) T e q cs' ∧ RdEnd E.s E.F T e q cs' p
    unfold pEnd at hne' ⊢
    rw [runG_bind] at hne' ⊢
    cases hr : runG P (t :: r) with
    | ok m l =>
      rw [hr] at ho
      obtain ⟨T, t, r, rfl, hA, rfl⟩ := ho
      have hk : t.k = 0 := hk0 _ _ _ _ hr
      show WP X _ fun p => ∃ T' e q cs', RdOut E (mcA base) (fun cs => ∃ m, cs = mcA base m) (runG (match decide (t.k = 0) with | true => Gr.ret m | false => Gr.err 140) (t :: r)) T' e q cs' ∧ RdEnd E.s E.F T' e q cs' p
      refine WP.iteF (by simp [hk]) ?_
      refine WP.leaf ⟨T, 0, 0, mcA base m, ?_, rfl, rfl, T, 0, 0, t.k, t.a, ((t.a + t.s.size : Nat) : Int), t.s, 0, ?_, rfl, rfl⟩
      · rw [decide_eq_true hk]; exact ⟨by have := hA.n; rw [hA.z hk] at this; exact_mod_cast this, rfl, rfl, rfl⟩
      · all_mem
    | more =>
      rw [hr] at ho
      obtain ⟨k, a, b, y, d, m, hm, rfl⟩ := ho
      refine WP.leaf ⟨E.N, E.f.1, E.f.2, mcA base m, ⟨rfl, rfl, rfl, m, rfl⟩, rfl, rfl, 0, 0, 0, k, a, b, y, d, ?_, rfl⟩
      all_mem
    | err e l =>
      rw [hr] at ho
      obtain ⟨t, r, T, k, a, b, y, d, rfl, hN, m, hm, rfl⟩ := ho
      refine WP.leaf ⟨T, (e : Nat), t.a, mcA base m, ⟨t, r, rfl, by exact_mod_cast hN, rfl, rfl, m, rfl⟩, rfl, rfl, 0, 0, 0, k, a, b, y, d, ?_, rfl⟩
      all_mem
    | out => rw [hr] at hne'; exact absurd rfl hne'
theorem read_gen0 (hX : LibX X) {g : FuncId} {P : Gr TMod} {B : Nat} (hcl : Rdr X g [.box base 0, .box (base + 1) 0] (BMg m0V) 0 0 P roM (poM B)) (hk0 : ∀ l x t r, runG P l = .ok x (t :: r) → t.k = 0) (E : Env) {F : Int} (hF : mx F = E.F) {l : List Tk} (hc : Chain E.s 0 E.F l E.f) (hN : l.length = E.N) (hne : runL (pEnd P) l ≠ .out) :
    ∃ T e q cs', RdOut E (mcA base) (erL B) (runL (pEnd P) l) T e q cs' ∧ ReadRun X E.s F (.fn g [] [.box base 0]) m0V T e q cs' := by
  obtain ⟨p, ⟨T, e, q, cs', h1, h2⟩, h3⟩ := rest_gen0 hX hcl hk0 E hc hN hne
  have hcs : cs' = m0V ∨ ∃ m, cs' = mcA base m := by
    unfold RdOut at h1
    split at h1
    · exact .inr ⟨_, h1.2.2.2⟩
    · exact h1.2.2.2.imp id fun ⟨m, _, h⟩ => ⟨m, h⟩
    · obtain ⟨t, r, _, _, _, _, h⟩ := h1; exact h.imp id fun ⟨m, _, h⟩ => ⟨m, h⟩
    · exact h1.elim
  refine ⟨T, e, q, cs', h1, WP.leaf ⟨rfl, by simp [getT], by all_mem⟩, WP.leaf ⟨rfl, by simp [getT], by all_mem⟩, rfl, (by intro t n es h; cases h), rfl, ?_, ?_⟩
  · intro k a b y d
    rcases hcs with rfl | ⟨m, rfl⟩ <;> exact ⟨_, rfl, fun b => rfl⟩
  · rw [hF]; exact ⟨p, h2, h3⟩
theorem read_gen1 (hX : LibX X) {g : FuncId} {P : Gr TMod} {B : Nat} (m0 : TMod) (hcl : Rdr X g [.box base 0, .box (base + 1) 0] (BMg (mc m0)) 0 0 P roM (poM B)) (hk0 : ∀ l x t r, runG P l = .ok x (t :: r) → t.k = 0) (E : Env) {F : Int} (hF : mx F = E.F) {l : List Tk} (hc : Chain E.s 0 E.F l E.f) (hN : l.length = E.N) (hne : runL (pEnd P) l ≠ .out) :
    ∃ T e q m', RdOut E (mcA base) (fun cs => ∃ m, cs = mcA base m) (runL (pEnd P) l) T e q (mcA base m') ∧ ReadRun X E.s F (.fn g [] [.box base 0]) (mcA base m0) T e q (mcA base m') := by
  obtain ⟨p, ⟨T, e, q, cs', h1, h2⟩, h3⟩ := rest_gen1 hX m0 hcl hk0 E hc hN hne
  have hcs : ∃ m, cs' = mcA base m := by
    unfold RdOut at h1
    split at h1
    · exact ⟨_, h1.2.2.2⟩
    · exact h1.2.2.2
    · obtain ⟨t, r, _, _, _, _, h⟩ := h1; exact h
    · exact h1.elim
  obtain ⟨m', rfl⟩ := hcs
  refine ⟨T, e, q, m', h1, WP.leaf ⟨rfl, by simp [getT], by all_mem⟩, WP.leaf ⟨rfl, by simp [getT], by all_mem⟩, rfl, (by intro t n es h; cases h), rfl, ?_, ?_⟩
  · intro k a b y d
    exact ⟨_, rfl, fun b => rfl⟩
  · rw [hF]; exact ⟨p, h2, h3⟩
theorem big_fu {s : ByteArray} {F : Int} (g : FuncId) (h : 65536 < s.size) : ReadRun X s F (.fn g [] [.box base 0]) m0V 0 3 0 m0V where
  r0 := WP.leaf ⟨rfl, by simp [getT], by all_mem⟩
  r1 := WP.leaf ⟨rfl, by simp [getT], by all_mem⟩
  hf := rfl
  hf' := by intro t n es h; cases h
  hin := rfl
  hout := fun k a b y d => ⟨_, rfl, fun b => rfl⟩
  run := by
    refine WP.iteT (decide_eq_true (by omega)) ?_
    refine WP.leaf ⟨rfl, rfl, 0, 3, 0, 0, 0, 0, .empty, 0, ?_, rfl, rfl⟩
    all_mem
/-- the closures that Fuel hands on -/
theorem r_fufn1 (hX : LibX X) {n : Nat} (hn : n ≤ 100000000) : Rdr X 40 [.box base 0, .box (base + 1) 0] (BMg m0V) 0 0 (pModule n) roM (poM 100000000) := by
  intro E T t r hA hne
  refine DoesQ.of Tryz.func40 (by kernel_rfl) ?_
  rw [bind_ret (pModule n)] at hne ⊢
  refine Rdr.use (B := BM) (r_module hX hn) hA hne ?_ ?_
  · intro m T t r hA hne
    exact WP.leaf ⟨T, t, r, rfl, hA, rfl⟩
  · rintro z q T k' a b y d2 o ⟨m, hm, rfl⟩
    exact WP.leaf ⟨m, hm, rfl⟩
theorem r_fufn2 (hX : LibX X) {n : Nat} (hn : n ≤ 100000000) : Rdr X 41 [.box base 0, .box (base + 1) 0] (BMg m0V) 0 0 (pModule n) roM (poM 100000000) := by
  intro E T t r hA hne
  refine DoesQ.of Tryz.func41 (by kernel_rfl) ?_
  rw [bind_ret (pModule n)] at hne ⊢
  refine Rdr.use (B := BM) (r_module hX hn) hA hne ?_ ?_
  · intro m T t r hA hne
    exact WP.leaf ⟨T, t, r, rfl, hA, rfl⟩
  · rintro z q T k' a b y d2 o ⟨m, hm, rfl⟩
    exact WP.leaf ⟨m, hm, rfl⟩
theorem r_fufn3 (hX : LibX X) {n : Nat} (hn : n ≤ 100000000) (m0 : TMod) (hm : LenM 100000000 m0) : Rdr X 41 [.box base 0, .box (base + 1) 0] (BMg (mc m0)) 0 0 (pModFrom n m0) roM (poM 200000000) := by
  intro E T t r hA hne
  refine DoesQ.of Tryz.func41 (by kernel_rfl) ?_
  rw [bind_ret (pModFrom n m0)] at hne ⊢
  have hm1 := hm.1
  have hm2 := hm.2
  refine Rdr.use (B := BMg (mc m0)) (r_moduleG hX (B := 200000000) (by decide) m0 ⟨hn, by omega, by omega⟩ (.inr rfl)) hA hne ?_ ?_
  · intro m T t r hA hne
    exact WP.leaf ⟨T, t, r, rfl, hA, rfl⟩
  · rintro z q T k' a b y d2 o ⟨m, hm, rfl⟩
    exact WP.leaf ⟨m, hm, rfl⟩
end Go.Proofs.YtacfbgfphkfobaaGreatDoor.Id
/-! ## PaRightB -/
namespace Go.Proofs.YtacfbgfphkfobaaGreatDoor.Id
open Go
set_option linter.unusedVariables false
set_option linter.unusedSimpArgs false
variable {X : Given}
theorem tw_len_all (p : UInt8 → Bool) : ∀ l : List UInt8, (l.takeWhile p).length = l.length ↔ l.all p = true
  | [] => by simp
  | c :: r => by
    rw [List.takeWhile_cons, List.all_cons]
    have ih := tw_len_all p r
    by_cases h : p c = true
    · rw [if_pos h, List.length_cons, List.length_cons, h, Bool.true_and, ← ih]; omega
    · rw [if_neg h]; simp [h]
def nmOk : List UInt8 → Bool
  | [] => false
  | c :: r => decide ((c :: r).length ≤ 32) && (isL c && (c :: r).all isW)
theorem just_word (l : List UInt8) : just l 1 = (nmOk l && !decide (l ∈ keyTexts)) := by
  cases l with
  | nil => rfl
  | cons c r =>
    have hl := tw_len_all isW (c :: r)
    have hle := tw_le isW (c :: r)
    unfold just nmOk
    change (decide (c :: r ≠ []) && decide ((tokC c r).2.2 = 0) && decide ((tokC c r).1 = 1) && decide ((tokC c r).2.1 = (c :: r).length)) = ((decide ((c :: r).length ≤ 32) && (isL c && (c :: r).all isW)) && !decide (c :: r ∈ keyTexts))
    unfold tokC
    generalize ((c :: r).takeWhile isW).length = n at *
    by_cases h1 : isL c = true
    · rw [if_pos h1, h1]
      by_cases hn : n = (c :: r).length
      · have ha := hl.1 hn
        rw [ha]
        subst hn
        rw [List.take_length]
        by_cases h2 : 32 < (c :: r).length
        · rw [if_pos h2]
          rw [decide_eq_false (show ¬ (c :: r).length ≤ 32 by omega)]
          simp
        · rw [if_neg h2]
          have : (c :: r).length ≤ 32 := by omega
          by_cases h3 : c :: r ∈ keyTexts
          · rw [if_pos h3]; simp [h3]
          · rw [if_neg h3]; simp at this; simp [h3, this]
      · have ha : (c :: r).all isW = false := by
          cases h : (c :: r).all isW with
          | false => rfl
          | true => exact absurd (hl.2 h) hn
        rw [ha]
        split
        · simp
        · split
          · simp
          · simp at hn; simp [hn]
    · rw [if_neg h1]
      have : isL c = false := by simpa using h1
      rw [this]
      repeat' split
      all_goals simp
theorem name_loop (s : ByteArray) (hs : s.size ≤ 1048576) (K : Ex → St → T Out) (Q : Out → Prop) : ∀ (r : List UInt8) (i : Nat), (L s).drop i = r →
    (r.all isW = true → WP X (K (.exit 0) ⟨[], []⟩) Q) → (r.all isW = false → WP X (K .ret ⟨[(2, .lit false)], []⟩) Q) → ∀ σ : St, getT σ.t 0 = vS s → getT σ.t 3 = vI i →
    WP X (.loop (lp Tryz.f85 0) σ K) Q
  | r, i, h, hE, hR, σ, g0, g3 => by
    refine WP.round ⟨[(0, vS s), (3, vI i)], []⟩ ⟨⟨.inl g0.symm, .inl g3.symm, trivial⟩, trivial⟩ ?_
    cases r with
    | nil =>
      have h1 := drop_none h; rw [L_length] at h1
      refine WP.iteF (by simp; omega) ?_
      exact WP.leaf ⟨⟨[], []⟩, ⟨trivial, trivial⟩, hE rfl⟩
    | cons c r =>
      obtain ⟨hb, hi⟩ := bt_drop h
      have hgo : isW c = true → ∀ σ : St, getT σ.t 0 = vS s → getT σ.t 3 = vI (IntKind.i64.wrap ((i : Int) + 1)) → WP X (.loop (lp Tryz.f85 0) σ K) Q := fun hw σ e0 e3 => by
        refine name_loop s hs K Q r (i + 1) (drop_some h).2.2 ?_ ?_ σ e0 ?_
        · intro ha; exact hE (by rw [List.all_cons, hw, ha]; rfl)
        · intro ha; exact hR (by rw [List.all_cons, hw, ha]; rfl)
        · rw [e3, wrapI (by omega) (by omega)]; rfl
      refine WP.iteT (by simp; omega) ?_
      refine WP.asrt (by omega) ?_
      refine WP.use1 (by rw [hb]; exact rletter c) ?_
      by_cases h1 : isL c = true
      · refine WP.iteF (by simp [h1]) ?_
        exact WP.leaf (hgo (by unfold isW; rw [h1]; rfl) _ rfl rfl)
      refine WP.iteT (by simp [h1]) ?_
      refine WP.asrt (by omega) ?_
      refine WP.use1 (by rw [hb]; exact rdigit c) ?_
      by_cases h2 : isD c = true
      · refine WP.iteF (by simp [h2]) ?_
        exact WP.leaf (hgo (by unfold isW; rw [h2]; simp) _ rfl rfl)
      · refine WP.iteT (by simp [h2]) ?_
        refine WP.leaf ⟨⟨[(2, .lit false)], []⟩, ⟨⟨.inl rfl, trivial⟩, trivial⟩, hR ?_⟩
        rw [List.all_cons]; unfold isW; simp [h1, h2]
theorem rname (s : ByteArray) (hs : s.size ≤ 1048576) : Does X 85 [vS s] [] (.ret (vB (nmOk (L s))) []) := by
  refine DoesQ.eq (DoesQ.of Tryz.func85 (by kernel_rfl) ?_)
  have hz := L_length s
  cases hl : L s with
  | nil =>
    rw [hl] at hz
    have hz0 : s.size = 0 := hz.symm
    refine WP.iteT (decide_eq_true (by omega)) ?_
    exact WP.leaf rfl
  | cons c r =>
    obtain ⟨hb, hi⟩ := bt_drop (s := s) (i := 0) (c := c) (r := r) (by rw [hl]; rfl)
    rw [hl] at hz
    have hp : 0 < (c :: r).length := by simp
    refine WP.iteF (decide_eq_false (by omega)) ?_
    rw [show nmOk (c :: r) = (decide ((c :: r).length ≤ 32) && (isL c && (c :: r).all isW)) from rfl]
    by_cases h32 : (c :: r).length ≤ 32
    · refine WP.iteF (decide_eq_false (by omega)) ?_
      refine WP.asrt (by omega) ?_
      refine WP.use1 (by rw [show bt s 0 = _ from hb]; exact rletter c) ?_
      by_cases h1 : isL c = true
      · refine WP.iteF (by simp [h1]) ?_
        refine name_loop s hs _ _ (c :: r) 0 (by rw [hl]; rfl) ?_ ?_ _ rfl rfl
        · intro ha; exact WP.leaf (by rw [decide_eq_true h32, h1, ha]; rfl)
        · intro ha; exact WP.leaf (by rw [decide_eq_true h32, h1, ha]; rfl)
      · refine WP.iteT (by simp [h1]) ?_
        exact WP.leaf (by simp [h1])
    · refine WP.iteT (decide_eq_true (by omega)) ?_
      exact WP.leaf (by rw [decide_eq_false h32]; rfl)
theorem rword (s : ByteArray) (hs : s.size ≤ 1048576) : Does X 50 [vS s] [] (.ret (vB (isWord s)) []) := by
  refine DoesQ.eq (DoesQ.of Tryz.func50 (by kernel_rfl) ?_)
  refine WP.use1 (rname s hs) ?_
  unfold isWord
  rw [just_word]
  refine WP.ite (fun h => ?_) (fun h => ?_)
  · refine WP.use1 (rkey s) ?_
    exact WP.leaf (by rw [h]; rfl)
  · exact WP.leaf (by rw [h]; rfl)
theorem rright_loop (hX : LibX X) (e : TExpr) (hk : e.kids.length ≤ 1000000000) (hD : ∀ x ∈ e.kids, Does X 51 [.agg (eD x)] [] (.ret (vB (rightE x)) [])) (K : Ex → St → Id.T Out) (Q : Out → Prop)
    (hE : rightEs e.kids = true → WP X (K (.exit 0) ⟨[(1, .box 1 0)], [(1, eV e)]⟩) Q) (hR : rightEs e.kids = false → WP X (K .ret ⟨[(2, .lit false)], []⟩) Q) :
    ∀ (r p : List TExpr), e.kids = p ++ r → rightEs p = true → ∀ σ : St, getT σ.t 1 = .box 1 0 → getT σ.t 3 = vI p.length → getB σ.b 1 = some (eV e) → WP X (.loop (lp Tryz.f51 0) σ K) Q
  | r, p, h, hp, σ, g1, g3, gb => by
    refine WP.round ⟨[(1, .box 1 0), (3, vI p.length)], [(1, eV e)]⟩ ⟨⟨.inl g1.symm, .inl g3.symm, trivial⟩, ⟨WkB.box gb, trivial⟩⟩ ?_
    have hlen : e.kids.length = p.length + r.length := by rw [h]; simp
    cases r with
    | nil =>
      refine WP.iteF (by rw [dsAll_len]; simp at hlen; simp; omega) ?_
      refine WP.leaf ⟨⟨[(1, .box 1 0)], [(1, eV e)]⟩, ⟨⟨.inl rfl, trivial⟩, ⟨WkB.box rfl, trivial⟩⟩, hE (by rw [h]; simpa using hp)⟩
    | cons y r =>
      simp only [List.length_cons] at hlen
      refine WP.iteT (by rw [dsAll_len]; simp; omega) ?_
      refine WP.idx _ (by omega) (dsAll_get h) ?_
      refine WP.use1 (hD y (by rw [h]; simp)) ?_
      refine WP.ite (fun hx => ?_) (fun hx => ?_)
      · refine WP.leaf ⟨⟨[(2, .lit false)], []⟩, ⟨⟨.inl rfl, trivial⟩, trivial⟩, hR ?_⟩
        rw [h, rightEs_app, rightEs]
        simp at hx; simp [hx]
      · refine WP.leaf ?_
        refine rright_loop hX e hk hD K Q hE hR r (p ++ [y]) (by rw [h]; simp) (by rw [rightEs_app, hp]; simp at hx; simp [rightEs, hx]) _ rfl ?_ rfl
        show vI (IntKind.i64.wrap ((p.length : Int) + 1)) = _
        rw [wrapI (by omega) (by omega)]; simp
set_option maxHeartbeats 4000000 in
theorem rright_does (hX : LibX X) : ∀ (n : Nat) (e : TExpr), SizeOf.sizeOf e < n → smE e → Does X 51 [.agg (eD e)] [] (.ret (vB (rightE e)) [])
  | 0, e, h, _ => absurd h (Nat.not_lt_zero _)
  | n + 1, .mk k a of nm v op kids, hn, hs => by
    simp only [smE] at hs
    obtain ⟨h1, h2, h3, h4⟩ := hs
    refine DoesQ.eq (DoesQ.of Tryz.func51 (by kernel_rfl) ?_)
    refine rright_loop hX (.mk k a of nm v op kids) h3 (fun x hx => rright_does hX n x ?_ (smEs_mem h4 hx)) _ _ ?_ ?_ kids [] rfl rfl _ rfl rfl rfl
    · have := List.sizeOf_lt_of_mem hx
      simp only [TExpr.mk.sizeOf_spec] at hn
      have : (TExpr.mk k a of nm v op kids).kids = kids := rfl
      simp_all; omega
    · intro hk
      have hw := rword (X := X) nm h2
      have ho := rword (X := X) of h1
      have hv := literal_does (X := X) v
      have hk' : rightEs kids = true := hk
      have e1 := dsAll_len kids
      clear hk hn h1 h2 h3 h4
      dsimp only [eV, TExpr.k, TExpr.a, TExpr.of, TExpr.nm, TExpr.v, TExpr.op, TExpr.kids]
      rw [rightE, hk']
      refine WP.use1 hw ?_
      repeat' first | refine WP.iteT (by assumption) ?_ | refine WP.iteF (by assumption) ?_ | refine WP.ite (fun _ => ?_) (fun _ => ?_) | refine WP.leaf ?_ | refine WP.use1 hv ?_ | refine WP.use1 ho ?_ | refine WP.asrt (by kernel_rfl) ?_
      all_goals
        clear hw ho hv hX hk'
        refine congrArg (fun b => Out.ret (vB b) []) ?_
        unfold rightN namedOk bareOk noVal
        simp_all [bytes_empty]
        all_goals first | omega | (rw [Bool.eq_iff_iff]; simp; omega)
    · intro hk
      refine WP.leaf ?_
      have hk' : rightEs kids = false := hk
      rw [rightE, hk']; rfl
end Go.Proofs.YtacfbgfphkfobaaGreatDoor.Id
/-! ## PaTold -/
namespace Go.Proofs.YtacfbgfphkfobaaGreatDoor.Id
open Go
set_option linter.unusedVariables false
set_option linter.unusedSimpArgs false
def GoodTk (t : Tk) : Prop := t.k ≠ 0 → tok (L t.s) = (t.k, t.s.size, 0)
/-- of what is told on good tokens this holds -/
def Ok {α : Type} (Q : α → Prop) (p : Gr α) : Prop := ∀ l, (∀ t ∈ l, GoodTk t) → ∀ x r, runG p l = .ok x r → Q x ∧ ∀ t ∈ r, GoodTk t
section
variable {α β : Type} {Q : α → Prop} {R : β → Prop}
theorem Ok.ret {x : α} (h : Q x) : Ok Q (.ret x) := fun l hl y r e => by cases e; exact ⟨h, hl⟩
theorem Ok.err (e : Nat) : Ok Q (.err e) := fun l hl y r h => by cases h
theorem Ok.out : Ok Q .out := fun l hl y r h => by cases h
theorem Ok.look {f : Tk → Gr α} (h : ∀ t, GoodTk t → Ok Q (f t)) : Ok Q (.look f) := fun l hl y r e => by
  cases l with
  | nil => cases e
  | cons t l => exact h t (hl t (by simp)) (t :: l) hl y r e
theorem Ok.next {g : Gr α} (h : Ok Q g) : Ok Q (.next g) := fun l hl y r e => by
  match l with
  | [] => cases e
  | [t] => cases e
  | t :: u :: l => exact h (u :: l) (fun x hx => hl x (by simp at hx ⊢; exact .inr hx)) y r e
theorem Ok.bind {p : Gr α} {f : α → Gr β} (h : Ok Q p) (k : ∀ x, Q x → Ok R (f x)) : Ok R (p.bind f) := fun l hl y r e => by
  rw [runG_bind] at e
  cases hp : runG p l with
  | ok x l' =>
    rw [hp] at e
    obtain ⟨h1, h2⟩ := h l hl x l' hp
    exact k x h1 l' h2 y r e
  | more => rw [hp] at e; cases e
  | err c l' => rw [hp] at e; cases e
  | out => rw [hp] at e; cases e
theorem Ok.bool {b : Bool} {p q : Gr α} : (b = true → Ok Q p) → (b = false → Ok Q q) → Ok Q (match b with | true => p | false => q) := fun h1 h2 => by
  cases b
  · exact h2 rfl
  · exact h1 rfl
theorem Ok.bool' {b : Bool} {p q : Gr α} : (b = true → Ok Q p) → (b = false → Ok Q q) → Ok Q (match b with | false => q | true => p) := fun h1 h2 => by
  cases b
  · exact h2 rfl
  · exact h1 rfl
theorem Ok.mono {p : Gr α} {Q' : α → Prop} (h : Ok Q p) (k : ∀ x, Q x → Q' x) : Ok Q' p := fun l hl x r e => ⟨k x (h l hl x r e).1, (h l hl x r e).2⟩
end
abbrev Tr {α : Type} (_ : α) : Prop := True
theorem ok_must (x : ByteArray) : Ok Tr (gMust x) := .look fun t _ => .bool (fun _ => .next (.ret trivial)) (fun _ => .err _)
theorem ok_open (x : ByteArray) (d : Nat) : Ok Tr (gOpen x d) := .look fun t _ => .bool (fun _ => .bool (fun _ => .err _) (fun _ => .next (.ret trivial))) (fun _ => .err _)
theorem ok_is (x : ByteArray) : Ok Tr (gIs x) := .look fun t _ => .ret trivial
theorem ok_sep (n : Nat) : Ok Tr (gSep n) := .bool (fun _ => .bind (ok_must _) fun _ _ => .ret trivial) (fun _ => .ret trivial)
theorem ok_of (k : Nat) : Ok (fun _ => True) (gOf k) := .look fun t _ => .bool (fun _ => .next (.ret trivial)) (fun _ => .err _)
theorem ok_word : Ok (fun w => isWord w.1 = true) (gOf 1) := .look fun t ht => .bool (fun hk => .next (.ret (just_of (by
  have hk : t.k = 1 := of_decide_eq_true hk
  have := ht (by omega)
  rw [hk] at this; exact this)))) (fun _ => .err _)
theorem word_size {s : ByteArray} (h : isWord s = true) : s.size ≤ 32 := by
  unfold isWord at h
  rw [just_word, Bool.and_eq_true] at h
  have := h.1
  have hz := L_length s
  revert this
  cases hl : L s with
  | nil => intro h; cases h
  | cons c r =>
    rw [hl] at hz
    intro h
    have h2 : (decide ((c :: r).length ≤ 32) && (isL c && (c :: r).all isW)) = true := h
    rw [Bool.and_eq_true, decide_eq_true_eq] at h2
    omega
/-! ### expressions -/
structure TE (e : TExpr) : Prop where
  r : rightE e = true
  s : smE e
abbrev TEs (l : List TExpr) : Prop := ∀ e ∈ l, TE e
theorem TEs.r : ∀ {l : List TExpr}, TEs l → rightEs l = true
  | [], _ => rfl
  | x :: r, h => by rw [rightEs, (h x (by simp)).r, TEs.r (l := r) fun e he => h e (by simp [he])]; rfl
theorem TEs.s {l : List TExpr} (h : TEs l) : ∀ {l : List TExpr}, TEs l → smEs l
  | [], _ => trivial
  | x :: r, h => ⟨(h x (by simp)).s, TEs.s (l := r) (fun e he => h e (by simp [he])) (fun e he => h e (by simp [he]))⟩
theorem op_range : ∀ k : Fin 5, ∀ s ∈ signs k.val, 1 ≤ opOf s ∧ opOf s ≤ 14 := by decide +kernel
theorem signs_le (k : Nat) : signs k = signs (min k 4) := by
  match k with
  | 0 => rfl
  | 1 => rfl
  | 2 => rfl
  | 3 => rfl
  | 4 => rfl
  | n + 5 => rfl
theorem isAny_mem {t : Tk} {xs : List ByteArray} (h : isAny t xs = true) : t.s ∈ xs := by
  unfold isAny at h
  simp at h
  exact h.2
theorem op_ok {t : Tk} {k : Nat} (h : isAny t (signs k) = true) : 1 ≤ opOf t.s ∧ opOf t.s ≤ 14 := by
  have h1 := isAny_mem h
  rw [signs_le] at h1
  exact op_range ⟨min k 4, by omega⟩ t.s h1
theorem te_bin {a : Nat} {s : ByteArray} {x y : TExpr} (h : 1 ≤ opOf s ∧ opOf s ≤ 14) (hx : TE x) (hy : TE y) : TE (bin a s x y) := by
  have hl : TEs [x, y] := fun e he => by
    rcases List.mem_cons.1 he with rfl | he
    · exact hx
    · rw [List.mem_singleton] at he; subst he; exact hy
  refine ⟨?_, by decide, by decide, by simp, hl.s hl⟩
  unfold bin
  rw [rightE, hl.r]
  simp [rightN, bareOk, noVal, val0, b0, h.1, h.2, bytes_empty]
theorem te_una {a : Nat} {s : ByteArray} {x : TExpr} (hx : TE x) : TE (una a s x) := by
  have hl : TEs [x] := fun e he => by rw [List.mem_singleton] at he; subst he; exact hx
  refine ⟨?_, by decide, by decide, by simp, hl.s hl⟩
  have h : 15 ≤ unOp s ∧ unOp s ≤ 17 := by
    unfold unOp
    split
    · omega
    · split <;> omega
  unfold una
  rw [rightE, hl.r]
  simp [rightN, bareOk, noVal, val0, b0, h.1, h.2, bytes_empty]
theorem num_nonneg (s : ByteArray) : 0 ≤ numZ s := by
  unfold numZ numR
  split <;> simp
theorem txt_len (s : ByteArray) : (txtZ s).size ≤ 4096 := by
  unfold txtZ
  split
  · decide
  · split
    · split
      · decide
      · rename_i t n hq
        unfold quo at hq
        split at hq
        · cases hq
        · split at hq
          · cases hq
            split
            · show (mkB _).size ≤ 4096
              rw [← L_length, L_mkB]; assumption
            · decide
          · cases hq
    · decide
theorem te_lit {a : Nat} {v : TVal} (h : litOk v = true) : TE (.mk 1 a b0 b0 v 0 []) := by
  refine ⟨?_, by decide, by decide, by simp, trivial⟩
  rw [rightE]
  simp [rightN, rightEs, bareOk, b0, h, bytes_empty]
theorem te_name {a : Nat} {of nm : ByteArray} (h1 : of = b0 ∨ isWord of = true) (h2 : isWord nm = true) : TE (.mk 2 a of nm val0 0 []) := by
  refine ⟨?_, ?_, by have := word_size h2; omega, by simp, trivial⟩
  · rw [rightE]
    simp [rightN, rightEs, namedOk, noVal, val0, b0, h2, bytes_empty]
    exact h1
  · rcases h1 with rfl | h
    · decide
    · have := word_size h; omega
theorem te_call {a : Nat} {of nm : ByteArray} {l : List TExpr} (h1 : of = b0 ∨ isWord of = true) (h2 : isWord nm = true) (h3 : TEs l) (h4 : l.length ≤ 1000000000) : TE (.mk 3 a of nm val0 0 l) := by
  refine ⟨?_, ?_, by have := word_size h2; omega, h4, h3.s h3⟩
  · rw [rightE, h3.r]
    simp [rightN, namedOk, noVal, val0, b0, h2, bytes_empty]
    exact h1
  · rcases h1 with rfl | h
    · decide
    · have := word_size h; omega
abbrev OkE (n : Nat) : Prop := n ≤ 100000000 →
  (∀ k d, Ok TE (pLine n k d)) ∧ (∀ k d e, TE e → Ok TE (pTail n k d e)) ∧ (∀ d, Ok TE (pUnary n d)) ∧ (∀ d, Ok TE (pPrim n d)) ∧
  (∀ d (a : Nat) of nm, (of = b0 ∨ isWord of = true) → isWord nm = true → Ok TE (pName n d a of nm)) ∧ (∀ d, Ok (fun l => TEs l ∧ l.length ≤ n) (pArgs n d)) ∧ (∀ d l, TEs l → Ok (fun l' => TEs l' ∧ l'.length ≤ l.length + n) (pArgl n d l))
theorem ok_exprs : ∀ n, OkE n
  | 0 => fun _ => ⟨fun _ _ => .out, fun _ _ _ _ => .out, fun _ => .out, fun _ => .out, fun _ _ _ _ _ _ => .out, fun _ => .out, fun _ _ _ => .out⟩
  | n + 1 => fun hn => by
    obtain ⟨hL, hT, hU, hP, hN, hA, hG⟩ := ok_exprs n (by omega)
    refine ⟨fun k d => ?_, fun k d e he => ?_, fun d => ?_, fun d => ?_, fun d a of nm h1 h2 => ?_, fun d => ?_, fun d l hl => ?_⟩
    · rw [pLine]
      exact .bool (fun _ => hU d) (fun _ => .bind (hL _ _) fun e he => hT k d e he)
    · rw [pTail]
      exact .look fun t _ => .bool (fun ht => .next (.bind (hL _ _) fun e2 h2 => .bool (fun _ => .ret (te_bin (op_ok ht) he h2)) (fun _ => hT k d _ (te_bin (op_ok ht) he h2)))) (fun _ => .ret he)
    · rw [pUnary]
      exact .look fun t _ => .bool (fun ht => .bool (fun _ => .err _) (fun _ => .next (.bind (hU _) fun e he => .ret (te_una he)))) (fun _ => hP d)
    · rw [pPrim]
      refine .look fun t _ => .bool (fun h2 => .next (.ret (te_lit ?_))) fun _ => .bool (fun h3 => .next (.ret (te_lit ?_))) fun _ => .bool (fun h4 => .next (.ret (te_lit ?_))) fun _ => .bool (fun h5 => .bind (ok_open _ _) fun _ _ => .bind (hL _ _) fun e he => .bind (ok_must _) fun _ _ => .ret he) fun _ => .bind ok_word fun w hw => .bind (ok_is _) fun b _ => .bool (fun _ => .next (.bind ok_word fun w2 hw2 => hN d t.a w.1 w2.1 (.inr hw) hw2)) (fun _ => hN d t.a b0 w.1 (.inl rfl) hw)
      · simp [litOk, b0, bytes_empty, num_nonneg]
      · simp [litOk, b0, bytes_empty, txt_len]
      · simp [litOk, b0, bytes_empty]
    · rw [pName]
      exact .bind (ok_is _) fun b _ => .bool (fun _ => .bind (hA d) fun l hl => .ret (te_call h1 h2 hl.1 (by omega))) (fun _ => .ret (te_name h1 h2))
    · rw [pArgs]
      exact .bind (ok_open _ _) fun _ _ => (hG (d + 1) [] (fun e he => by cases he)).mono fun l h => ⟨h.1, by have := h.2; simp at this; omega⟩
    · rw [pArgl]
      exact .bind (ok_is _) fun b _ => .bool (fun _ => .next (.ret ⟨hl, by omega⟩)) (fun _ => .bind (ok_sep _) fun _ _ => .bind (hL _ _) fun e he => (hG d (l ++ [e]) (by
        intro x hx
        rcases List.mem_append.1 hx with h | h
        · exact hl x h
        · rw [List.mem_singleton] at h; subst h; exact he)).mono fun l' h => ⟨h.1, by have := h.2; simp at this; omega⟩)
/-! ### statements -/
structure TS (s : TStmt) : Prop where
  r : rightS s = true
  s : smS s
abbrev TSs (l : List TStmt) : Prop := ∀ s ∈ l, TS s
theorem TSs.r : ∀ {l : List TStmt}, TSs l → rightSs l = true
  | [], _ => rfl
  | x :: r, h => by rw [rightSs, (h x (by simp)).r, TSs.r (l := r) fun e he => h e (by simp [he])]; rfl
theorem TSs.s : ∀ {l : List TStmt}, TSs l → smSs l
  | [], _ => trivial
  | x :: r, h => ⟨(h x (by simp)).s, TSs.s (l := r) fun e he => h e (by simp [he])⟩
theorem ts_mk {k a : Int} {nm : ByteArray} {e : TExpr} {body els : List TStmt} {he : Bool} (h : rightSN k nm e body.length he = true) (h1 : nm = b0 ∨ isWord nm = true) (h2 : smE e) (h3 : TSs body) (h4 : TSs els) (h5 : body.length ≤ 1000000000) (h6 : els.length ≤ 1000000000) (h7 : he = true ∨ els = []) : TS (.mk k a nm e body els he) := by
  refine ⟨?_, ?_, h2, h5, h6, h3.s, h4.s⟩
  · rw [rightS, h3.r, h4.r, h]
    rcases h7 with rfl | rfl <;> simp
  · rcases h1 with rfl | h
    · decide
    · have := word_size h; omega
theorem sm_expr0 : smE expr0 := ⟨by decide, by decide, by decide, trivial⟩
/-- a statement without statements of its own -/
theorem ts_flat {k a : Int} {nm : ByteArray} {e : TExpr} (h : rightSN k nm e 0 false = true) (h1 : nm = b0 ∨ isWord nm = true) (h2 : smE e) : TS (.mk k a nm e [] [] false) :=
  ts_mk h h1 h2 (fun s hs => by cases hs) (fun s hs => by cases hs) (by simp) (by simp) (.inr rfl)
theorem ok_semi {s : TStmt} (h : TS s) : Ok TS (gSemi s) := .bind (ok_must _) fun _ _ => .ret h
abbrev NamedOk (x : Int × ByteArray × TExpr) : Prop := rightSN x.1 x.2.1 x.2.2 0 false = true ∧ (x.2.1 = b0 ∨ isWord x.2.1 = true) ∧ smE x.2.2
theorem do_ok {e : TExpr} (h : rightE e = true) (hk : e.k = 3) : rightSN 7 b0 e 0 false = true := by simp [rightSN, h, hk, b0, bytes_empty]
theorem ok_named {n : Nat} (hn : n ≤ 100000000) (d : Nat) : Ok NamedOk (pNamed n d) := by
  obtain ⟨hL, _, _, _, _, hA, _⟩ := ok_exprs n hn
  unfold pNamed
  refine .bind ok_word fun w hw => .bind (ok_is _) fun b _ => .bool (fun _ => .next (.bind (hL _ _) fun e he => .ret ⟨?_, .inr hw, he.s⟩)) fun _ => .bind (ok_is _) fun b _ => .bool (fun _ => .next (.bind ok_word fun w2 hw2 => .bind (hA d) fun l hl => ?_)) fun _ => .bind (hA d) fun l hl => ?_
  · simp [rightSN, he.r, hw]
  · have := te_call (a := w.2) (of := w.1) (nm := w2.1) (.inr hw) hw2 hl.1 (by omega)
    exact .ret ⟨do_ok this.r rfl, .inl rfl, this.s⟩
  · have := te_call (a := w.2) (of := b0) (nm := w.1) (.inl rfl) hw hl.1 (by omega)
    exact .ret ⟨do_ok this.r rfl, .inl rfl, this.s⟩
abbrev OkS (n : Nat) : Prop := n ≤ 100000000 →
  (∀ d, Ok (fun l => TSs l ∧ l.length ≤ n) (pBlock n d)) ∧ (∀ d l, TSs l → Ok (fun l' => TSs l' ∧ l'.length ≤ l.length + n) (pStmts n d l)) ∧ (∀ d, Ok TS (pStmt n d)) ∧ (∀ d, Ok TS (pBranch n d))
theorem ok_stmts : ∀ n, OkS n
  | 0 => fun _ => ⟨fun _ => .out, fun _ _ _ => .out, fun _ => .out, fun _ => .out⟩
  | n + 1 => fun hn => by
    obtain ⟨hB, hG, hS, hR⟩ := ok_stmts n (by omega)
    obtain ⟨hL, _, _, _, _, hA, _⟩ := ok_exprs n (by omega)
    refine ⟨fun d => ?_, fun d l hl => ?_, fun d => ?_, fun d => ?_⟩
    · rw [pBlock]
      exact .bind (ok_open _ _) fun _ _ => (hG (d + 1) [] (fun e he => by cases he)).mono fun l h => ⟨h.1, by have := h.2; simp at this; omega⟩
    · rw [pStmts]
      exact .bind (ok_is _) fun b _ => .bool (fun _ => .next (.ret ⟨hl, by omega⟩)) (fun _ => .bind (hS _) fun e he => (hG d (l ++ [e]) (by
        intro x hx
        rcases List.mem_append.1 hx with h | h
        · exact hl x h
        · rw [List.mem_singleton] at h; subst h; exact he)).mono fun l' h => ⟨h.1, by have := h.2; simp at this; omega⟩)
    · rw [pStmt]
      refine .look fun t _ => .bool (fun _ => .next (.bind ok_word fun w hw => .bind (ok_must _) fun _ _ => .bind (hL _ _) fun e he => ok_semi (ts_flat ?_ (.inr hw) he.s))) fun _ => .bool (fun _ => hR d) fun _ => .bool (fun _ => .next (.bind (hL _ _) fun e he => .bind (hB d) fun b hb => .ret (ts_mk ?_ (.inl rfl) he.s hb.1 (fun s hs => by cases hs) (by omega) (by simp) (.inr rfl)))) fun _ => .bool (fun _ => .next (.bind (ok_is _) fun b _ => .bool (fun _ => ok_semi (ts_flat ?_ (.inl rfl) sm_expr0)) (fun _ => .bind (hL _ _) fun e he => ok_semi (ts_flat ?_ (.inl rfl) he.s)))) fun _ => .bool (fun _ => .next (.bind (hL _ _) fun e he => ok_semi (ts_flat ?_ (.inl rfl) he.s))) fun _ => .bind (ok_named (by omega) d) fun x hx => ok_semi (ts_flat hx.1 hx.2.1 hx.2.2)
      · simp [rightSN, he.r, hw]
      · simp [rightSN, he.r, b0, bytes_empty]
      · decide +kernel
      · simp [rightSN, he.r, b0, bytes_empty]
      · simp [rightSN, he.r, b0, bytes_empty]
    · rw [pBranch]
      refine .bind (ok_must _) fun a _ => .bind (hL _ _) fun e he => .bind (hB d) fun b hb => .bind (ok_is _) fun c _ => .bool' (fun _ => .next (.bind (ok_is _) fun c _ => .bool (fun _ => .bind (hR d) fun s hs => .ret (ts_mk ?_ (.inl rfl) he.s hb.1 (fun x hx => by rw [List.mem_singleton] at hx; subst hx; exact hs) (by omega) (by simp) (.inl rfl))) (fun _ => .bind (hB d) fun l hl => .ret (ts_mk ?_ (.inl rfl) he.s hb.1 hl.1 (by omega) (by omega) (.inl rfl))))) fun _ => .ret (ts_mk ?_ (.inl rfl) he.s hb.1 (fun s hs => by cases hs) (by omega) (by simp) (.inr rfl))
      all_goals simp [rightSN, he.r, b0, bytes_empty]
/-! ### functions, modules -/
abbrev TPs (l : List TParam) : Prop := ∀ p ∈ l, rightP p = true
theorem ok_type : Ok (fun t : Int => 1 ≤ t ∧ t ≤ 3) pType := .look fun t _ => .bool (fun _ => .next (.ret (by
  split
  · omega
  · split <;> omega))) (fun _ => .err _)
theorem ok_param : Ok (fun p => rightP p = true) pParam := .bind ok_word fun w hw => .bind (ok_must _) fun _ _ => .bind ok_type fun t ht => .ret (by simp [rightP, hw, ht.1, ht.2])
theorem ok_params : ∀ (n : Nat) (l : List TParam), TPs l → Ok (fun l' => TPs l' ∧ l'.length ≤ l.length + n) (pParams n l)
  | 0, l, _ => .out
  | n + 1, l, hl => .bind (ok_is _) fun b _ => .bool (fun _ => .next (.ret ⟨hl, by omega⟩)) (fun _ => .bind (ok_sep _) fun _ _ => .bind ok_param fun e he => (ok_params n (l ++ [e]) (by
        intro x hx
        rcases List.mem_append.1 hx with h | h
        · exact hl x h
        · rw [List.mem_singleton] at h; subst h; exact he)).mono fun l' h => ⟨h.1, by have := h.2; simp at this; omega⟩)
structure TF (f : TFunc) : Prop where
  r : rightF f = true
  s : SmF f
theorem tf_mk {nm : ByteArray} {ex : Bool} {a : Int} {ps : List TParam} {res : Int} {body : List TStmt} (h1 : isWord nm = true) (h2 : TPs ps) (h3 : ps.length ≤ 1000000000) (h4 : 0 ≤ res ∧ res ≤ 3) (h5 : TSs body) (h6 : body.length ≤ 1000000000) : TF ⟨nm, ex, a, ps, res, body⟩ :=
  ⟨by simp [rightF, h1, h4.1, h4.2, h5.r]; exact h2, ⟨by have := word_size h1; exact Nat.le_trans this (by decide), h3, fun p hp => by
    have := h2 p hp
    unfold rightP at this
    rw [Bool.and_eq_true] at this
    exact Nat.le_trans (word_size this.1) (by decide), h6, h5.s⟩⟩
theorem ok_func {n : Nat} (hn : n ≤ 100000000) (ex : Bool) : Ok TF (pFunc n ex) := by
  obtain ⟨hB, _, _, _⟩ := ok_stmts n hn
  unfold pFunc
  exact .bind (ok_must _) fun _ _ => .bind ok_word fun w hw => .bind (ok_open _ _) fun _ _ => .bind (ok_params n [] (fun e he => by cases he)) fun ps hps => .bind (ok_is _) fun b _ => .bool (fun _ => .next (.bind ok_type fun t ht => .bind (hB 0) fun b hb => .ret (tf_mk hw hps.1 (by have := hps.2; simp at this; omega) ⟨by omega, ht.2⟩ hb.1 (by omega)))) (fun _ => .bind (hB 0) fun b hb => .ret (tf_mk hw hps.1 (by have := hps.2; simp at this; omega) ⟨by omega, by omega⟩ hb.1 (by omega)))
structure TC (c : TCons) : Prop where
  w : isWord c.nm = true
  e : TE c.e
theorem ok_const {n : Nat} (hn : n ≤ 100000000) (ex : Bool) : Ok TC (pConst n ex) := by
  obtain ⟨hL, _⟩ := ok_exprs n hn
  unfold pConst
  exact .bind (ok_must _) fun _ _ => .bind ok_word fun w hw => .bind (ok_must _) fun _ _ => .bind (hL _ _) fun e he => .bind (ok_must _) fun _ _ => .ret ⟨hw, he⟩
structure TI' (x : TIncl) : Prop where
  p : x.p.size ≤ 4096
  w : isWord x.nm = true
theorem ok_incl : Ok TI' pIncl := .bind (ok_must _) fun _ _ => .bind (ok_of 3) fun q _ => .bind (ok_must _) fun _ _ => .bind ok_word fun w hw => .bind (ok_must _) fun _ _ => .ret ⟨txt_len _, hw⟩
theorem ok_incls : ∀ (n : Nat) (l : List TIncl), (∀ x ∈ l, TI' x) → Ok (fun l' => (∀ x ∈ l', TI' x) ∧ l'.length ≤ l.length + n) (pIncls n l)
  | 0, l, _ => .out
  | n + 1, l, hl => .bind (ok_is _) fun b _ => .bool (fun _ => .bind ok_incl fun e he => (ok_incls n (l ++ [e]) (by
        intro x hx
        rcases List.mem_append.1 hx with h | h
        · exact hl x h
        · rw [List.mem_singleton] at h; subst h; exact he)).mono fun l' h => ⟨h.1, by have := h.2; simp at this; omega⟩) (fun _ => .ret ⟨hl, by omega⟩)
/-- a module that is right, its rows not too long -/
structure TM (n : Nat) (m : TMod) : Prop where
  is : ∀ x ∈ m.is, TI' x
  ni : m.is.length ≤ 100000000
  cs : ∀ c ∈ m.cs, TC c
  fs : ∀ f ∈ m.fs, TF f
  n : m.cs.length + m.fs.length ≤ n
theorem ok_decls {N : Nat} : ∀ (n k : Nat) (m : TMod), n + k ≤ N → N ≤ 100000000 → TM k m → Ok (TM N) (pDecls n m)
  | 0, _, _, _, _, _ => .out
  | n + 1, k, m, hk, hN, hm => by
    have hd : ∀ ex, Ok (TM N) (pDecl (pDecls n) n ex m) := fun ex => .look fun t _ => .bool
      (fun _ => .bind (ok_const (by omega) ex) fun c hc => ok_decls n (k + 1) _ (by omega) hN ⟨hm.is, hm.ni, fun x hx => by
        rcases List.mem_append.1 hx with h | h
        · exact hm.cs x h
        · rw [List.mem_singleton] at h; subst h; exact hc, hm.fs, by have := hm.n; simp; omega⟩)
      (fun _ => .bool (fun _ => .bind (ok_func (by omega) ex) fun c hc => ok_decls n (k + 1) _ (by omega) hN ⟨hm.is, hm.ni, hm.cs, fun x hx => by
        rcases List.mem_append.1 hx with h | h
        · exact hm.fs x h
        · rw [List.mem_singleton] at h; subst h; exact hc, by have := hm.n; simp; omega⟩) (fun _ => .err _))
    exact .look fun t _ => .bool (fun _ => .ret ⟨hm.is, hm.ni, hm.cs, hm.fs, by have := hm.n; omega⟩) (fun _ => .bool (fun _ => .next (hd true)) (fun _ => hd false))
theorem ok_module {n : Nat} (hn : n ≤ 100000000) : Ok (TM n) (pModule n) :=
  .bind (ok_incls n [] (fun e he => by cases he)) fun l hl => ok_decls n 0 _ (by omega) hn ⟨hl.1, (by have := hl.2; simp at this; exact Nat.le_trans this hn), fun c hc => (by cases hc), fun c hc => (by cases hc), by simp⟩
theorem TM.r {n : Nat} {m : TMod} (h : TM n m) : rightM m = true := by
  unfold rightM
  simp only [Bool.and_eq_true, List.all_eq_true]
  refine ⟨fun x hx => ?_, fun c hc => ?_, fun f hf => (h.fs f hf).r⟩
  · have := h.is x hx
    simp [rightI, this.p, this.w]
  · have := h.cs c hc
    simp [rightC, this.w, this.e.r]
theorem TM.s {n : Nat} {m : TMod} (h : TM n m) (hn : n ≤ 100000000) : SmM m :=
  ⟨by have := h.ni; omega, by have := h.n; omega, by have := h.n; omega, fun x hx => Nat.le_trans (word_size (h.is x hx).w) (by decide), fun c hc => ⟨Nat.le_trans (word_size (h.cs c hc).w) (by decide), (h.cs c hc).e.s⟩, fun f hf => (h.fs f hf).s⟩
theorem ok_end {α : Type} {Q : α → Prop} {p : Gr α} (h : Ok Q p) : Ok Q (pEnd p) := .bind h fun x hx => .look fun t _ => .bool (fun _ => .ret hx) (fun _ => .err _)
/-- the tokens of a source are good -/
theorem chain_good {s : ByteArray} {i b : Nat} {l : List Tk} {f : Nat × Nat} (h : Chain s i b l f) : i ≤ s.size → ∀ t ∈ l, GoodTk t := by
  induction h with
  | bad h1 => intro _ t ht; cases ht
  | out h1 h2 => intro _ t ht; cases ht
  | fin h1 h2 =>
    intro hi t ht
    rw [List.mem_singleton] at ht
    subst ht
    exact fun hk => absurd h2 hk
  | @tok i b l f h1 h2 h3 ih =>
    intro hi t ht
    rcases List.mem_cons.1 ht with rfl | ht
    · exact fun _ => tkAt_good s i hi h1 h2
    · exact ih (tkAt_to s i hi h1).2 t ht
theorem told_mod {s : ByteArray} {b : Nat} {l r : List Tk} {f : Nat × Nat} {m : TMod} (hc : Chain s 0 b l f) (h : runL (pEnd (pModule bigN)) l = .ok m r) : rightM m = true ∧ SmM m := by
  cases l with
  | nil => cases h
  | cons t l =>
    obtain ⟨h1, _⟩ := ok_end (ok_module (n := bigN) (by decide)) _ (chain_good hc (Nat.zero_le _)) m r h
    exact ⟨h1.r, h1.s (by decide)⟩
theorem told_expr {s : ByteArray} {b : Nat} {l r : List Tk} {f : Nat × Nat} {e : TExpr} (hc : Chain s 0 b l f) (h : runL (pEnd (pLine bigN 0 0)) l = .ok e r) : TE e := by
  cases l with
  | nil => cases h
  | cons t l => exact (ok_end ((ok_exprs bigN (by decide)).1 0 0) _ (chain_good hc (Nat.zero_le _)) e r h).1
end Go.Proofs.YtacfbgfphkfobaaGreatDoor.Id
/-! ## PaCutF -/
namespace Go.Proofs.YtacfbgfphkfobaaGreatDoor.Id
open Go
set_option linter.unusedVariables false
set_option linter.unusedSimpArgs false
/-- tokens up to the end, or as many as there is fuel for; then the fault -/
def cutF (g : Nat × Nat) : List Tk → Nat → List Tk × (Nat × Nat)
  | [], _ => ([], g)
  | t :: r, b => match decide (t.k = 0) with
    | true => ([t], (0, 0))
    | false => match b with
      | 0 => ([], (142, t.a))
      | b + 1 => (t :: (cutF g r b).1, (cutF g r b).2)
theorem cutF_end (g : Nat × Nat) (t : Tk) (r : List Tk) (b : Nat) (h : t.k = 0) : cutF g (t :: r) b = ([t], (0, 0)) := by rw [cutF.eq_def]; simp only [decide_eq_true h]
theorem cutF_out (g : Nat × Nat) (t : Tk) (r : List Tk) (h : t.k ≠ 0) : cutF g (t :: r) 0 = ([], (142, t.a)) := by rw [cutF.eq_def]; simp only [decide_eq_false h]
theorem cutF_tok (g : Nat × Nat) (t : Tk) (r : List Tk) (b : Nat) (h : t.k ≠ 0) : cutF g (t :: r) (b + 1) = (t :: (cutF g r b).1, (cutF g r b).2) := by rw [cutF.eq_def]; simp only [decide_eq_false h]
theorem cut_chain {s : ByteArray} {i B : Nat} {full : List Tk} {g : Nat × Nat} (h : Chain s i B full g) : i ≤ s.size → s.size - i < B → ∀ b, Chain s i b (cutF g full b).1 (cutF g full b).2 := by
  induction h with
  | bad h1 => exact fun _ _ b => .bad h1
  | @fin i B f h1 h2 =>
    intro hi hB b
    rw [cutF_end _ _ _ _ (show (tkAt s i).k = 0 from h2)]
    exact .fin h1 h2
  | out h1 h2 => intro hi hB; omega
  | @tok i B l f h1 h2 h3 ih =>
    intro hi hB b
    have hadv := nx_adv (L s) i (by rw [L_length]; exact hi) h1 h2
    have hto := tkAt_to s i hi h1
    have hk : (tkAt s i).k ≠ 0 := h2
    cases b with
    | zero => rw [cutF_out _ _ _ hk]; exact .out h1 h2
    | succ b => rw [cutF_tok _ _ _ _ hk]; exact .tok h1 h2 (ih hto.2 (by omega) b)
/-- the whole of a source's tokens -/
theorem chain_br {s : ByteArray} {i B : Nat} {full : List Tk} {g : Nat × Nat} (h : Chain s i B full g) : i ≤ s.size → s.size - i < B → (full ≠ [] ∧ Endy full) ∨ (g.1 ≠ 0 ∧ g.1 ≠ 142) := by
  induction h with
  | @bad i b h1 => intro _ _; have := nx_code (L s) i; exact .inr ⟨h1, by simp only; omega⟩
  | fin h1 h2 => exact fun _ _ => .inl ⟨by simp, [], _, rfl, h2⟩
  | out h1 h2 => intro hi hB; omega
  | @tok i B l f h1 h2 h3 ih =>
    intro hi hB
    have hadv := nx_adv (L s) i (by rw [L_length]; exact hi) h1 h2
    have hto := tkAt_to s i hi h1
    rcases ih hto.2 (by omega) with ⟨h5, p, t, h6, h7⟩ | h
    · exact .inl ⟨by simp, _ :: p, t, by rw [h6]; rfl, h7⟩
    · exact .inr h
theorem chain_text {s : ByteArray} {i b : Nat} {l : List Tk} {f : Nat × Nat} (h : Chain s i b l f) : i ≤ s.size → ∀ t ∈ l, t.a + t.s.size ≤ s.size ∧ s.extract t.a (t.a + t.s.size) = t.s := by
  have key : ∀ j, j ≤ s.size → (nx (L s) j).2.2.2 = 0 → (tkAt s j).a + (tkAt s j).s.size ≤ s.size ∧ s.extract (tkAt s j).a ((tkAt s j).a + (tkAt s j).s.size) = (tkAt s j).s := fun j hj he => by
    have hto := tkAt_to s j hj he
    refine ⟨by omega, ?_⟩
    rw [hto.1]; rfl
  induction h with
  | bad h1 => intro _ t ht; cases ht
  | out h1 h2 => intro _ t ht; cases ht
  | fin h1 h2 =>
    intro hi t ht
    rw [List.mem_singleton] at ht
    subst ht
    exact key _ hi h1
  | @tok i b l f h1 h2 h3 ih =>
    intro hi t ht
    rcases List.mem_cons.1 ht with rfl | ht
    · exact key _ hi h1
    · exact ih (tkAt_to s i hi h1).2 t ht
/-- the end stands last -/
theorem chain_last {s : ByteArray} {i b : Nat} {l : List Tk} {f : Nat × Nat} (h : Chain s i b l f) : ∀ (p r : List Tk) (t : Tk), l = p ++ t :: r → t.k = 0 → r = [] := by
  induction h with
  | bad h1 => intro p r t h; cases p <;> cases h
  | out h1 h2 => intro p r t h; cases p <;> cases h
  | fin h1 h2 =>
    intro p r t h hk
    cases p with
    | nil => cases h; rfl
    | cons a p => cases p <;> cases h
  | @tok i b l f h1 h2 h3 ih =>
    intro p r t h hk
    cases p with
    | nil => cases h; exact absurd hk h2
    | cons a p =>
      rw [List.cons_append] at h
      injection h with h5 h6
      exact ih p r t h6 hk
structure REnv where
  s : ByteArray
  F : Int
  full : List Tk
  br : Nat × Nat
  hF : -9223372036854775808 ≤ F ∧ F ≤ 9223372036854775807
  hl : full.length ≤ 65537
  hc : (s.size ≤ 65536 ∧ Chain s 0 (s.size + 1) full br) ∨ (full = [] ∧ br.1 ≠ 0)
/-- the tokens to come, with the fuel that is left; the fault behind them -/
def REnv.rest (E : REnv) (T : Nat) : List Tk × (Nat × Nat) := cutF E.br (E.full.drop T) (E.F.toNat - T)
def REnv.l (E : REnv) : List Tk := (E.rest 0).1
def REnv.f (E : REnv) : Nat × Nat := (E.rest 0).2
theorem REnv.chain (E : REnv) (hc : Chain E.s 0 (E.s.size + 1) E.full E.br) : Chain E.s 0 E.F.toNat E.l E.f := by
  have := cut_chain hc (Nat.zero_le _) (by omega) E.F.toNat
  exact this
/-- the parser stands at a token; or its next look finds the fault -/
structure RAt (E : REnv) (T : Nat) (t : Tk) (r : List Tk) : Prop where
  h : E.rest T = (t :: r, E.f)
structure RPend (E : REnv) (T : Nat) : Prop where
  h : E.rest T = ([], E.f)
  nz : E.f.1 ≠ 0
  le : T ≤ E.full.length
theorem RAt.get {E : REnv} {T : Nat} {t : Tk} {r : List Tk} (h : RAt E T t r) : E.full[T]? = some t ∧ (t.k ≠ 0 → (T : Int) < E.F) := by
  have h1 := h.h
  unfold REnv.rest at h1
  generalize E.f = ef at h1
  cases hd : E.full.drop T with
  | nil => rw [hd] at h1; cases h1
  | cons u q =>
    have hT := (drop_some hd).1
    have hu : E.full[T]? = some u := by
      have := (drop_some hd).2.1 u
      rw [List.getD_eq_getElem?_getD, List.getElem?_eq_getElem hT] at this
      rw [List.getElem?_eq_getElem hT]; exact congrArg some this
    rw [hd] at h1
    by_cases hk : u.k = 0
    · rw [cutF_end _ _ _ _ hk] at h1
      cases h1
      exact ⟨hu, fun h => absurd hk h⟩
    · cases hb : E.F.toNat - T with
      | zero => rw [hb, cutF_out _ _ _ hk] at h1; cases h1
      | succ b =>
        rw [hb, cutF_tok _ _ _ _ hk] at h1
        cases h1
        exact ⟨hu, fun _ => by omega⟩
theorem RAt.mem {E : REnv} {T : Nat} {t : Tk} {r : List Tk} (h : RAt E T t r) : t ∈ E.full := List.mem_of_getElem? h.get.1
theorem RAt.lt {E : REnv} {T : Nat} {t : Tk} {r : List Tk} (h : RAt E T t r) : T < E.full.length := (List.getElem?_eq_some_iff.1 h.get.1).1
theorem RAt.hc {E : REnv} {T : Nat} {t : Tk} {r : List Tk} (h : RAt E T t r) : E.s.size ≤ 65536 ∧ Chain E.s 0 (E.s.size + 1) E.full E.br := by
  rcases E.hc with h1 | ⟨h1, _⟩
  · exact h1
  · have := h.lt
    rw [h1] at this
    exact absurd this (by simp)
theorem RAt.good {E : REnv} {T : Nat} {t : Tk} {r : List Tk} (h : RAt E T t r) : GoodTk t := chain_good h.hc.2 (Nat.zero_le _) t h.mem
theorem RAt.text {E : REnv} {T : Nat} {t : Tk} {r : List Tk} (h : RAt E T t r) : t.a + t.s.size ≤ E.s.size ∧ E.s.extract t.a (t.a + t.s.size) = t.s := chain_text h.hc.2 (Nat.zero_le _) t h.mem
/-- behind the end there is nothing -/
theorem RAt.fin {E : REnv} {T : Nat} {t : Tk} {r : List Tk} (h : RAt E T t r) (hk : t.k = 0) : r = [] := by
  have h1 := h.h
  unfold REnv.rest at h1
  generalize E.f = ef at h1
  cases hd : E.full.drop T with
  | nil => rw [hd] at h1; cases h1
  | cons u q =>
    rw [hd] at h1
    by_cases hu : u.k = 0
    · rw [cutF_end _ _ _ _ hu] at h1; cases h1; rfl
    · cases hb : E.F.toNat - T with
      | zero => rw [hb, cutF_out _ _ _ hu] at h1; cases h1
      | succ b => rw [hb, cutF_tok _ _ _ _ hu] at h1; cases h1; exact absurd hk hu
/-- a token is taken -/
theorem RAt.next {E : REnv} {T : Nat} {t : Tk} {r : List Tk} (h : RAt E T t r) (hk : t.k ≠ 0) : match r with | [] => RPend E (T + 1) | u :: r => RAt E (T + 1) u r := by
  have h1 := h.h
  unfold REnv.rest at h1
  cases hd : E.full.drop T with
  | nil => rw [hd] at h1; cases h1
  | cons u q =>
    rw [hd] at h1
    by_cases hu : u.k = 0
    · rw [cutF_end _ _ _ _ hu] at h1
      injection h1 with h2 h3
      injection h2 with h4 h5
      exact absurd (h4 ▸ hu) hk
    · cases hb : E.F.toNat - T with
      | zero => rw [hb, cutF_out _ _ _ hu] at h1; cases h1
      | succ b =>
        rw [hb, cutF_tok _ _ _ _ hu] at h1
        injection h1 with h2 h3
        injection h2 with h4 h5
        have hr : E.rest (T + 1) = (r, E.f) := by
          unfold REnv.rest
          rw [(drop_some hd).2.2, show E.F.toNat - (T + 1) = b by omega, ← h5, ← h3]
        cases r with
        | cons v r => exact ⟨hr⟩
        | nil =>
          refine ⟨hr, ?_, by have := h.lt; omega⟩
          unfold REnv.rest at hr
          cases hd2 : E.full.drop (T + 1) with
          | nil =>
            rw [hd2] at hr
            have hr : E.br = E.f := congrArg Prod.snd hr
            rw [← hr]
            rcases chain_br h.hc.2 (Nat.zero_le _) (by omega) with ⟨h7, p, t2, h8, h9⟩ | h7
            · exfalso
              have hq : q = [] := by rw [← (drop_some hd).2.2]; exact hd2
              have h10 : E.full = E.full.take T ++ u :: [] := by
                have := (List.take_append_drop T E.full).symm
                rw [hd, hq] at this
                exact this
              rw [h8] at h10
              have := congrArg List.getLast? h10
              simp at this
              rw [this] at h9
              exact hu h9
            · exact h7.1
          | cons v q2 =>
            rw [hd2] at hr
            by_cases hv : v.k = 0
            · rw [cutF_end _ _ _ _ hv] at hr; cases hr
            · cases hb2 : E.F.toNat - (T + 1) with
              | zero =>
                rw [hb2, cutF_out _ _ _ hv] at hr
                have hr : ((142 : Nat), v.a) = E.f := congrArg Prod.snd hr
                rw [← hr]; exact (fun h => by cases h)
              | succ b2 => rw [hb2, cutF_tok _ _ _ _ hv] at hr; cases hr
theorem RPend.get {E : REnv} {T : Nat} (h : RPend E T) : (E.full.length ≤ T ∧ E.br = E.f) ∨ ∃ t, E.full[T]? = some t ∧ t.k ≠ 0 ∧ E.F ≤ T ∧ E.f = (142, t.a) := by
  have h1 := h.h
  unfold REnv.rest at h1
  cases hd : E.full.drop T with
  | nil =>
    rw [hd] at h1
    exact .inl ⟨drop_none hd, congrArg Prod.snd h1⟩
  | cons u q =>
    have hT := (drop_some hd).1
    have hu' : E.full[T]? = some u := by
      have := (drop_some hd).2.1 u
      rw [List.getD_eq_getElem?_getD, List.getElem?_eq_getElem hT] at this
      rw [List.getElem?_eq_getElem hT]; exact congrArg some this
    rw [hd] at h1
    by_cases hu : u.k = 0
    · rw [cutF_end _ _ _ _ hu] at h1; cases h1
    · cases hb : E.F.toNat - T with
      | zero =>
        rw [hb, cutF_out _ _ _ hu] at h1
        exact .inr ⟨u, hu', hu, by omega, (congrArg Prod.snd h1).symm⟩
      | succ b => rw [hb, cutF_tok _ _ _ _ hu] at h1; cases h1
/-- where it begins -/
theorem ratInit (E : REnv) : match E.l with | [] => RPend E 0 | t :: r => RAt E 0 t r := by
  have he : E.rest 0 = (E.l, E.f) := rfl
  cases hl : E.l with
  | nil =>
    refine ⟨by rw [he, hl], ?_, Nat.zero_le _⟩
    rcases E.hc with ⟨_, hc⟩ | ⟨h1, h2⟩
    · have := chain_f (E.chain hc)
      rw [hl] at this
      rcases this with ⟨h, _⟩ | h
      · exact absurd rfl h
      · exact h
    · have : E.f = E.br := by unfold REnv.f REnv.rest; rw [h1]; rfl
      rw [this]; exact h2
  | cons t r => exact ⟨by rw [he, hl]⟩
end Go.Proofs.YtacfbgfphkfobaaGreatDoor.Id
/-! ## PaRefA -/
namespace Go.Proofs.YtacfbgfphkfobaaGreatDoor.Id
open Go
set_option linter.unusedVariables false
set_option linter.unusedSimpArgs false
set_option maxRecDepth 100000
variable {X : Given}
abbrev tkD (t : Tk) : List D := [cZ (t.k : Nat), cZ (t.a : Nat), cZ ((t.a + t.s.size : Nat) : Int)]
abbrev tk0 : List D := [cZ 0, cZ 0, cZ 0]
abbrev tksD (l : List Tk) : List (List D) := l.map fun t => tkD t
/-- the parser's cells -/
abbrev rp (E : REnv) (T lv e q : Int) : List V := [vS E.s, .d (.sl 3 (tksD E.full)), vI (E.br.1 : Nat), vI (E.br.2 : Nat), vI E.F, vI T, vI lv, vI e, vI q]
theorem tks_get {E : REnv} {T : Nat} {t : Tk} (h : E.full[T]? = some t) : (tksD E.full)[((T : Int)).toNat]? = some (tkD t) := by
  rw [Int.toNat_natCast, List.getElem?_map, h]; rfl
theorem lk_ok {E : REnv} {T : Nat} {t : Tk} {r : List Tk} (h : RAt E T t r) (lv : Int) : Does X 38 [.box base 0] [rp E T lv 0 0] (.ret (.agg (tkD t)) [rp E T lv 0 0]) := by
  have hl := h.lt
  have hL := E.hl
  refine DoesQ.eq (DoesQ.of Tryz.func38 (by kernel_rfl) ?_)
  refine WP.iteF (by simp) ?_
  refine WP.asrt (by kernel_rfl) ?_
  refine WP.asrt (by kernel_rfl) ?_
  refine WP.iteF (decide_eq_false (by rw [List.length_map]; omega)) ?_
  refine WP.asrt (by kernel_rfl) ?_
  refine WP.idx _ (by omega) (tks_get h.get.1) ?_
  refine WP.asrt (by kernel_rfl) ?_
  refine WP.asrt (by kernel_rfl) ?_
  by_cases hk : t.k = 0
  · repeat refine WP.iteF (by simp [hk]) ?_
    refine WP.asrt (by kernel_rfl) ?_
    exact WP.leaf rfl
  · have := h.get.2 hk
    repeat first | refine WP.asrt (by kernel_rfl) ?_ | refine WP.iteT (by first | rfl | (simp [hk]; done) | (simp [hk]; omega)) ?_ | refine WP.iteF (by first | rfl | (simp [hk]; done) | (simp [hk]; omega)) ?_
    exact WP.leaf rfl
theorem lk_dead {E : REnv} {T lv e q : Int} (h : e ≠ 0) : Does X 38 [.box base 0] [rp E T lv e q] (.ret (.agg tk0) [rp E T lv e q]) := by
  refine DoesQ.eq (DoesQ.of Tryz.func38 (by kernel_rfl) ?_)
  refine WP.iteT (by simp [h]) ?_
  exact WP.leaf rfl
theorem lk_pend {E : REnv} {T : Nat} (h : RPend E T) (lv : Int) : Does X 38 [.box base 0] [rp E T lv 0 0] (.ret (.agg tk0) [rp E T lv (E.f.1 : Nat) (E.f.2 : Nat)]) := by
  have hL := E.hl
  refine DoesQ.eq (DoesQ.of Tryz.func38 (by kernel_rfl) ?_)
  refine WP.iteF (by simp) ?_
  refine WP.asrt (by kernel_rfl) ?_
  refine WP.asrt (by kernel_rfl) ?_
  rcases h.get with ⟨hl, hf⟩ | ⟨t, ht, hk, hF, hf⟩
  · rw [← hf]
    refine WP.iteT (decide_eq_true (by rw [List.length_map]; omega)) ?_
    exact WP.leaf rfl
  · have hl := (List.getElem?_eq_some_iff.1 ht).1
    rw [hf]
    refine WP.iteF (decide_eq_false (by rw [List.length_map]; omega)) ?_
    refine WP.asrt (by kernel_rfl) ?_
    refine WP.idx _ (by omega) (tks_get ht) ?_
    repeat first | refine WP.asrt (by kernel_rfl) ?_ | refine WP.iteT (by first | rfl | (simp [hk]; done) | (simp [hk]; omega)) ?_ | refine WP.iteF (by first | rfl | (simp [hk]; done) | (simp [hk]; omega)) ?_
    exact WP.leaf rfl
/-- a fault: code, place, and the number of tokens that were taken -/
structure Flt where
  c : Nat
  a : Nat
  T : Int
/-- the parser has, or will find, a fault -/
def RB (E : REnv) (T lv e w : Int) (q : Flt) : Prop := (e = (q.c : Nat) ∧ w = (q.a : Nat) ∧ q.c ≠ 0 ∧ T = q.T) ∨ (e = 0 ∧ w = 0 ∧ ((q.c = E.f.1 ∧ q.a = E.f.2) ∧ T = q.T) ∧ ∃ n : Nat, T = n ∧ RPend E n)
theorem RB.lv {E : REnv} {T lv lv' e w : Int} {q : Flt} (h : RB E T lv e w q) : RB E T lv' e w q := h
theorem RPend.bad {E : REnv} {T : Nat} (h : RPend E T) (lv : Int) : RB E T lv 0 0 ⟨E.f.1, E.f.2, T⟩ := .inr ⟨rfl, rfl, ⟨⟨rfl, rfl⟩, rfl⟩, T, rfl, h⟩
/-- what a function that looked leaves: the fault -/
abbrev BadO {α : Type} (E : REnv) (ro : α → List V → Out) (q : Flt) (o : Out) : Prop := ∃ (x : α) (T lv e w : Int), RB E T lv e w q ∧ o = ro x (rp E T lv e w)
abbrev roTk (x : List D) (c : List V) : Out := .ret (.agg x) [c]
abbrev roB (x : Bool) (c : List V) : Out := .ret (vB x) [c]
abbrev rU {α : Type} (_ : α) (c : List V) : Out := .ret (.tuple []) [c]
theorem RB.nz {E : REnv} {T lv e w : Int} {q : Flt} (h : RB E T lv e w q) : q.c ≠ 0 := by
  rcases h with ⟨_, _, h, _⟩ | ⟨_, _, ⟨⟨h1, _⟩, _⟩, n, _, h⟩
  · exact h
  · rw [h1]; exact h.nz
theorem RB.die {E : REnv} {T lv lv' e w : Int} {q : Flt} (h : RB E T lv e w q) : RB E T lv' (q.c : Nat) (q.a : Nat) q := by
  have hq := h.nz
  rcases h with ⟨_, _, _, hT⟩ | ⟨_, _, ⟨_, hT⟩, _⟩
  · exact .inl ⟨rfl, rfl, hq, hT⟩
  · exact .inl ⟨rfl, rfl, hq, hT⟩
theorem lk_bad {E : REnv} {T lv e w : Int} {q : Flt} (h : RB E T lv e w q) : Does X 38 [.box base 0] [rp E T lv e w] (roTk tk0 (rp E T lv (q.c : Nat) (q.a : Nat))) := by
  rcases h with ⟨rfl, rfl, h, _⟩ | ⟨rfl, rfl, ⟨⟨h1, h2⟩, _⟩, n, rfl, h⟩
  · exact lk_dead (by omega)
  · rw [h1, h2]; exact lk_pend h lv
/-! ### is -/
theorem is_ok {E : REnv} {T : Nat} {t : Tk} {r : List Tk} (h : RAt E T t r) (lv : Int) (x : ByteArray) : Does X 63 [.box base 0, vS x] [rp E T lv 0 0] (.ret (vB (isT t x)) [rp E T lv 0 0]) := by
  have htx := h.text
  refine DoesQ.eq (DoesQ.of Tryz.func63 (by kernel_rfl) ?_)
  refine WP.use1 (lk_ok h lv) ?_
  have hx : decide (E.s.extract t.a (t.a + t.s.size) = x) = decide (t.s = x) := by rw [htx.2]
  unfold isT
  by_cases h5 : t.k = 5
  · repeat first | refine WP.asrt (by kernel_rfl) ?_ | refine WP.iteT (by first | rfl | (simp [h5]; done) | (simp [h5]; omega)) ?_ | refine WP.iteF (by first | rfl | (simp [h5]; done) | (simp [h5]; omega)) ?_
    refine WP.asrt ⟨by simp, by simp; omega, by simp; omega⟩ ?_
    repeat first | refine WP.asrt (by kernel_rfl) ?_ | refine WP.iteT (by first | rfl | (simp [h5]; done) | (simp [h5]; omega)) ?_ | refine WP.iteF (by first | rfl | (simp [h5]; done) | (simp [h5]; omega)) ?_
    refine WP.leaf ?_
    rw [decide_eq_true h5, ← hx]; rfl
  · by_cases h4 : t.k = 4
    · repeat first | refine WP.asrt (by kernel_rfl) ?_ | refine WP.iteT (by first | rfl | (simp [h5, h4]; done) | (simp [h5, h4]; omega)) ?_ | refine WP.iteF (by first | rfl | (simp [h5, h4]; done) | (simp [h5, h4]; omega)) ?_
      refine WP.asrt ⟨by simp, by simp; omega, by simp; omega⟩ ?_
      repeat first | refine WP.asrt (by kernel_rfl) ?_ | refine WP.iteT (by first | rfl | (simp [h5, h4]; done) | (simp [h5, h4]; omega)) ?_ | refine WP.iteF (by first | rfl | (simp [h5, h4]; done) | (simp [h5, h4]; omega)) ?_
      refine WP.leaf ?_
      rw [decide_eq_true h4, ← hx, Bool.or_true, Bool.true_and]; rfl
    · repeat first | refine WP.asrt (by kernel_rfl) ?_ | refine WP.iteT (by first | rfl | (simp [h5, h4]; done) | (simp [h5, h4]; omega)) ?_ | refine WP.iteF (by first | rfl | (simp [h5, h4]; done) | (simp [h5, h4]; omega)) ?_
      refine WP.leaf ?_
      rw [decide_eq_false h4, decide_eq_false h5]; rfl
theorem is_bad {E : REnv} {T lv e w : Int} {q : Flt} (h : RB E T lv e w q) (x : ByteArray) : Does X 63 [.box base 0, vS x] [rp E T lv e w] (roB false (rp E T lv (q.c : Nat) (q.a : Nat))) := by
  have hq := h.nz
  refine DoesQ.eq (DoesQ.of Tryz.func63 (by kernel_rfl) ?_)
  refine WP.use1 (lk_bad h) ?_
  repeat first | refine WP.asrt (by kernel_rfl) ?_ | refine WP.iteT (by first | rfl | (simp; done) | (simp; omega)) ?_ | refine WP.iteF (by first | rfl | (simp; done) | (simp; omega)) ?_
  exact WP.leaf rfl
/-! ### wrong, fine -/
theorem wrong_ok {E : REnv} {T : Nat} {t : Tk} {r : List Tk} (h : RAt E T t r) (lv : Int) : Does X 39 [.box base 0] [rp E T lv 0 0] (.ret (.tuple []) [rp E T lv 140 (t.a : Nat)]) := by
  refine DoesQ.eq (DoesQ.of Tryz.func39 (by kernel_rfl) ?_)
  refine WP.use1 (lk_ok h lv) ?_
  repeat first | refine WP.asrt (by kernel_rfl) ?_ | refine WP.iteT (by first | rfl | (simp; done) | (simp; omega)) ?_ | refine WP.iteF (by first | rfl | (simp; done) | (simp; omega)) ?_
  exact WP.leaf rfl
theorem wrong_bad {E : REnv} {T lv e w : Int} {q : Flt} (h : RB E T lv e w q) : Does X 39 [.box base 0] [rp E T lv e w] (rU () (rp E T lv (q.c : Nat) (q.a : Nat))) := by
  have hq := h.nz
  refine DoesQ.eq (DoesQ.of Tryz.func39 (by kernel_rfl) ?_)
  refine WP.use1 (lk_bad h) ?_
  repeat first | refine WP.asrt (by kernel_rfl) ?_ | refine WP.iteT (by first | rfl | (simp; done) | (simp; omega)) ?_ | refine WP.iteF (by first | rfl | (simp; done) | (simp; omega)) ?_
  exact WP.leaf rfl
theorem fine_ok {E : REnv} (T lv : Int) : Does X 37 [.box base 0] [rp E T lv 0 0] (.ret (vB true) [rp E T lv 0 0]) := by
  refine DoesQ.eq (DoesQ.of Tryz.func37 (by kernel_rfl) ?_)
  exact WP.leaf rfl
theorem fine_dead {E : REnv} {T lv e q : Int} (h : e ≠ 0) : Does X 37 [.box base 0] [rp E T lv e q] (.ret (vB false) [rp E T lv e q]) := by
  refine DoesQ.eq (DoesQ.of Tryz.func37 (by kernel_rfl) ?_)
  exact WP.leaf (by simp [h])
/-! ### what a function of the parser answers -/
/-- the fault is what the grammar's answer tells -/
def IsBad {β : Type} (E : REnv) (res : Rs β) (q : Flt) : Prop := (res = .more ∧ q.c = E.f.1 ∧ q.a = E.f.2 ∧ ∃ n : Nat, q.T = n ∧ RPend E n) ∨ ∃ c t r, res = .err c (t :: r) ∧ q.c = c ∧ q.a = t.a ∧ ∃ n : Nat, q.T = n ∧ RAt E n t r
def RPost {α : Type} (E : REnv) (lv : Int) (ro : α → List V → Out) (res : Rs α) (o : Out) : Prop :=
  match res with
  | .ok x l => ∃ T t r, l = t :: r ∧ RAt E T t r ∧ o = ro x (rp E (T : Nat) lv 0 0)
  | .more => ∃ q, IsBad E (Rs.more : Rs α) q ∧ BadO E ro q o
  | .err e l => ∃ q, IsBad E (Rs.err e l : Rs α) q ∧ BadO E ro q o
  | .out => False
theorem IsBad.conv {α β : Type} {E : REnv} {res : Rs α} {q : Flt} (h : IsBad E res q) (f : α → List Tk → Rs β) : IsBad E (res.bind f) q := by
  rcases h with ⟨rfl, h⟩ | ⟨c, t, r, rfl, h⟩
  · exact .inl ⟨rfl, h⟩
  · exact .inr ⟨c, t, r, rfl, h⟩
theorem RPend.isBad {β : Type} {E : REnv} {T : Nat} (h : RPend E T) : IsBad E (Rs.more : Rs β) ⟨E.f.1, E.f.2, T⟩ := .inl ⟨rfl, rfl, rfl, T, rfl, h⟩
theorem RPost.mkErr {α : Type} {E : REnv} {lv lv' : Int} {ro : α → List V → Out} {T : Nat} {t : Tk} {r : List Tk} {c : Nat} {o : Out} {x : α} (hA : RAt E T t r) (hc : c ≠ 0) (ho : o = ro x (rp E T lv (c : Nat) (t.a : Nat))) : RPost E lv' ro (.err c (t :: r)) o :=
  ⟨⟨c, t.a, T⟩, .inr ⟨c, t, r, rfl, rfl, rfl, T, rfl, hA⟩, x, T, lv, c, t.a, .inl ⟨rfl, rfl, hc, rfl⟩, ho⟩
/-- a function does what a grammar says -/
def Rf {α : Type} (X : Given) (g : FuncId) (args : List V) (lv lv' : Int) (p : Gr α) (ro : α → List V → Out) : Prop :=
  ∀ (E : REnv) (T : Nat) (t : Tk) (r : List Tk), RAt E T t r → runG p (t :: r) ≠ .out → DoesQ X g args [rp E T lv 0 0] (RPost E lv' ro (runG p (t :: r)))
/-- with a fault it does nothing -/
def Rb {α : Type} (X : Given) (g : FuncId) (args : List V) (ro : α → List V → Out) : Prop :=
  ∀ (E : REnv) (T lv e w : Int) (q : Flt), RB E T lv e w q → DoesQ X g args [rp E T lv e w] (BadO E ro q)
theorem Rf.seq {α β γ : Type} {g : FuncId} {args : List V} {lv : Int} {ro : α → List V → Out} {h : α → Gr β} {k : Out → Id.T γ} {E : REnv} {cs : List V} {res : Rs α} {P : Rs β → γ → Prop}
    (hD : DoesQ X g args [cs] (RPost E lv ro res)) (hne : (res.bind fun x r => runG (h x) r) ≠ .out)
    (hok : ∀ x T t r, RAt E T t r → runG (h x) (t :: r) ≠ .out → WP X (k (ro x (rp E (T : Nat) lv 0 0))) (P (runG (h x) (t :: r))))
    (hbad : ∀ x T lv e w q res', RB E T lv e w q → IsBad E res' q → WP X (k (ro x (rp E T lv e w))) (P res')) :
    WP X (.call g args [cs] k) (P (res.bind fun x r => runG (h x) r)) := by
  refine WP.use hD fun o ho => ?_
  cases res with
  | ok x l => obtain ⟨T, t, r, rfl, hA, rfl⟩ := ho; exact hok x T t r hA hne
  | more => obtain ⟨q, hq, x, T, lv, e, w, hb, rfl⟩ := ho; exact hbad x T lv e w _ _ hb (hq.conv _)
  | err e l => obtain ⟨q, hq, x, T, lv, e', w, hb, rfl⟩ := ho; exact hbad x T lv e' w _ _ hb (hq.conv _)
  | out => exact ho.elim
theorem BadO.post {α : Type} {E : REnv} {lv : Int} {ro : α → List V → Out} {q : Flt} {res : Rs α} {o : Out} (h : BadO E ro q o) (hr : IsBad E res q) : RPost E lv ro res o := by
  rcases hr with ⟨rfl, hr⟩ | ⟨c, t, r, rfl, hr⟩
  · exact ⟨q, .inl ⟨rfl, hr⟩, h⟩
  · exact ⟨q, .inr ⟨c, t, r, rfl, hr⟩, h⟩
theorem Rf.use {α β : Type} {g : FuncId} {args : List V} {lv lv1 lv' : Int} {p : Gr α} {ro : α → List V → Out} {ro' : β → List V → Out} {h : α → Gr β} {k : Out → Id.T Out} {E : REnv} {T : Nat} {t : Tk} {r : List Tk}
    (hD : Rf X g args lv lv1 p ro) (hA : RAt E T t r) (hne : runG (p.bind h) (t :: r) ≠ .out)
    (hok : ∀ x T t r, RAt E T t r → runG (h x) (t :: r) ≠ .out → WP X (k (ro x (rp E (T : Nat) lv1 0 0))) (RPost E lv' ro' (runG (h x) (t :: r))))
    (hbad : ∀ x T lv e w q, RB E T lv e w q → WP X (k (ro x (rp E T lv e w))) (BadO E ro' q)) :
    WP X (.call g args [rp E T lv 0 0] k) (RPost E lv' ro' (runG (p.bind h) (t :: r))) := by
  rw [runG_bind] at hne ⊢
  exact Rf.seq (P := RPost E lv' ro') (hD E T t r hA fun e => hne (by rw [e]; rfl)) hne hok fun x T lv e w q res hb hr => (hbad x T lv e w q hb).mono fun o ho => BadO.post ho hr
/-- a call with a fault, ahead of the rest -/
theorem Rb.use {α γ : Type} {g : FuncId} {args : List V} {ro : α → List V → Out} {k : Out → Id.T γ} {E : REnv} {T lv e w : Int} {q : Flt} {Q : γ → Prop} (hD : Rb X g args ro) (hb : RB E T lv e w q) (hk : ∀ x T lv e w, RB E T lv e w q → WP X (k (ro x (rp E T lv e w))) Q) : WP X (.call g args [rp E T lv e w] k) Q :=
  WP.use (hD E T lv e w q hb) fun o ⟨x, T, lv, e, w, h, e'⟩ => by subst e'; exact hk x T lv e w h
/-! ### take -/
abbrev rW (x : ByteArray × Nat) (c : List V) : Out := .ret (vS x.1) [c]
theorem tk_wrap {E : REnv} {T : Nat} {t : Tk} {r : List Tk} (h : RAt E T t r) : IntKind.i64.wrap ((T : Int) + 1) = ((T + 1 : Nat) : Int) := by
  have := h.lt
  have := E.hl
  rw [wrapI (by omega) (by omega)]; rfl
/-- a token was taken -/
theorem RPost.next {α : Type} {E : REnv} {lv : Int} {ro : α → List V → Out} {x : α} {T : Nat} {t : Tk} {r : List Tk} {o : Out} (h : RAt E T t r) (hk : t.k ≠ 0) (ho : o = ro x (rp E ((T + 1 : Nat) : Int) lv 0 0)) : RPost E lv ro (runG (.next (.ret x)) (t :: r)) o := by
  have hn := h.next hk
  cases r with
  | nil => exact ⟨_, RPend.isBad hn, x, _, _, _, _, RPend.bad hn lv, ho⟩
  | cons u r => exact ⟨T + 1, u, r, rfl, hn, ho⟩
theorem take_f (x : ByteArray) (lv : Int) : Rf X 93 [.box base 0, vS x] lv lv (gMust x) rU := by
  intro E T t r hA hne
  refine DoesQ.of Tryz.func93 (by kernel_rfl) ?_
  refine WP.use1 (is_ok hA lv x) ?_
  have e : runG (gMust x) (t :: r) = runG (match isT t x with | true => .next (.ret t.a) | false => .err 140) (t :: r) := rfl
  rw [e]
  cases h : isT t x with
  | true =>
    refine WP.iteF rfl ?_
    refine WP.leaf (RPost.next hA (isT_k h) ?_)
    rw [← tk_wrap hA]
  | false =>
    refine WP.iteT rfl ?_
    refine WP.use1 (wrong_ok hA lv) ?_
    exact WP.leaf (RPost.mkErr (x := 0) hA (by decide) rfl)
theorem take_b (x : ByteArray) : Rb X 93 [.box base 0, vS x] (rU (α := Nat)) := by
  intro E T lv e w q hb
  refine DoesQ.of Tryz.func93 (by kernel_rfl) ?_
  refine WP.use1 (is_bad hb x) ?_
  refine WP.iteT rfl ?_
  refine WP.use1 (wrong_bad (hb.die (lv' := lv))) ?_
  exact WP.leaf ⟨0, _, _, _, _, hb.die, rfl⟩
end Go.Proofs.YtacfbgfphkfobaaGreatDoor.Id
/-! ## PaRefB -/
namespace Go.Proofs.YtacfbgfphkfobaaGreatDoor.Id
open Go
set_option linter.unusedVariables false
set_option linter.unusedSimpArgs false
set_option maxRecDepth 100000
variable {X : Given}
theorem opens_f (x : ByteArray) (d : Nat) (hd : d ≤ 64) : Rf X 96 [.box base 0, vS x] d (d + 1 : Nat) (gOpen x d) rU := by
  intro E T t r hA hne
  refine DoesQ.of Tryz.func96 (by kernel_rfl) ?_
  refine WP.use1 (is_ok hA d x) ?_
  have e : runG (gOpen x d) (t :: r) = runG (match isT t x with | true => (match decide (64 ≤ d) with | true => .err 141 | false => .next (.ret ())) | false => .err 140) (t :: r) := rfl
  rw [e]
  cases h : isT t x with
  | false =>
    refine WP.iteT rfl ?_
    refine WP.use1 (wrong_ok hA d) ?_
    exact WP.leaf (RPost.mkErr (x := ()) hA (by decide) rfl)
  | true =>
    refine WP.iteF rfl ?_
    by_cases h64 : 64 ≤ d
    · rw [decide_eq_true h64]
      refine WP.iteT (decide_eq_true (by omega)) ?_
      refine WP.use1 (lk_ok hA d) ?_
      exact WP.leaf (RPost.mkErr (x := ()) hA (by decide) rfl)
    · rw [decide_eq_false h64]
      refine WP.iteF (decide_eq_false (by omega)) ?_
      refine WP.leaf (RPost.next hA (isT_k h) ?_)
      rw [← tk_wrap hA, show ((d + 1 : Nat) : Int) = IntKind.i64.wrap ((d : Int) + 1) by rw [wrapI (by omega) (by omega)]; rfl]
theorem opens_b (x : ByteArray) : Rb X 96 [.box base 0, vS x] (rU (α := Unit)) := by
  intro E T lv e w q hb
  refine DoesQ.of Tryz.func96 (by kernel_rfl) ?_
  refine WP.use1 (is_bad hb x) ?_
  refine WP.iteT rfl ?_
  refine WP.use1 (wrong_bad (hb.die (lv' := lv))) ?_
  exact WP.leaf ⟨(), _, _, _, _, hb.die, rfl⟩
theorem closes_f (x : ByteArray) (d : Nat) (hd : d ≤ 64) : Rf X 99 [.box base 0, vS x] (d + 1 : Nat) d (gMust x) rU := by
  intro E T t r hA hne
  have e : gMust x = (gMust x).bind fun y => .ret y := by unfold gMust; simp only [Gr.bind]; congr 1; funext t; cases isT t x <;> rfl
  refine DoesQ.of Tryz.func99 (by kernel_rfl) ?_
  rw [e] at hne ⊢
  refine Rf.use (take_f x (d + 1 : Nat)) hA hne ?_ ?_
  · intro y T t r hA hne
    refine WP.leaf ⟨T, t, r, rfl, hA, ?_⟩
    rw [show (d : Int) = IntKind.i64.wrap (((d + 1 : Nat) : Int) - 1) by rw [wrapI (by omega) (by omega)]; omega]
  · intro y T lv e w q hb
    exact WP.leaf ⟨0, T, IntKind.i64.wrap (lv - 1), e, w, hb, rfl⟩
theorem closes_b (x : ByteArray) : Rb X 99 [.box base 0, vS x] (rU (α := Nat)) := by
  intro E T lv e w q hb
  refine DoesQ.of Tryz.func99 (by kernel_rfl) ?_
  refine Rb.use (take_b x) hb ?_
  intro y T lv e w hb
  exact WP.leaf ⟨0, T, IntKind.i64.wrap (lv - 1), e, w, hb, rfl⟩
theorem kind_f (k : Nat) (hk : k ≠ 0) (lv : Int) : Rf X 95 [.box base 0, vI k] lv lv (gOf k) rW := by
  intro E T t r hA hne
  have htx := hA.text
  refine DoesQ.of Tryz.func95 (by kernel_rfl) ?_
  refine WP.use1 (lk_ok hA lv) ?_
  refine WP.iteF (by simp) ?_
  have e : runG (gOf k) (t :: r) = runG (match decide (t.k = k) with | true => .next (.ret (t.s, t.a)) | false => .err 140) (t :: r) := rfl
  rw [e]
  by_cases h : t.k = k
  · rw [decide_eq_true h]
    refine WP.iteF (by simp [h]) ?_
    refine WP.asrt (by kernel_rfl) ?_
    refine WP.asrt ⟨by simp, by simp; omega, by simp; omega⟩ ?_
    refine WP.asrt (by kernel_rfl) ?_
    refine WP.leaf (RPost.next hA (by omega) ?_)
    show Out.ret (vS (E.s.extract t.a (t.a + t.s.size))) [rp E (IntKind.i64.wrap ((T : Int) + 1)) lv 0 0] = _
    rw [htx.2, tk_wrap hA]
  · rw [decide_eq_false h]
    refine WP.iteT (by simp; omega) ?_
    refine WP.use1 (wrong_ok hA lv) ?_
    exact WP.leaf (RPost.mkErr (x := (.empty, 0)) hA (by decide) rfl)
theorem kind_b (k : Int) : Rb X 95 [.box base 0, vI k] rW := by
  intro E T lv e w q hb
  have hq := hb.nz
  refine DoesQ.of Tryz.func95 (by kernel_rfl) ?_
  refine WP.use1 (lk_bad hb) ?_
  refine WP.iteT (by simp [hq]) ?_
  exact WP.leaf ⟨(.empty, 0), _, _, _, _, hb.die, rfl⟩
/-! ### one of some -/
theorem one_loop {E : REnv} {T : Nat} {t : Tk} {q : List Tk} (hA : RAt E T t q) (lv : Int) (l : List ByteArray) (hl : l.length ≤ 1048576) (K : Ex → St → Id.T Out) (Q : Out → Prop)
    (hE : (l.any fun x => isT t x) = false → WP X (K (.exit 0) ⟨[], [(base, rp E T lv 0 0)]⟩) Q) (hR : (l.any fun x => isT t x) = true → WP X (K .ret ⟨[(4, vS t.s)], [(base, rp E T lv 0 0)]⟩) Q) :
    ∀ (r p : List ByteArray), l = p ++ r → (p.any fun x => isT t x) = false → ∀ σ : St, getT σ.t 0 = .box base 0 → getT σ.t 1 = .d (.sl 1 (rowS l)) → getT σ.t 5 = vI p.length → getB σ.b base = some (rp E T lv 0 0) → WP X (.loop (lp Tryz.f104 0) σ K) Q
  | r, p, h, hp, σ, g0, g1, g5, gb => by
    refine WP.round ⟨[(0, .box base 0), (1, .d (.sl 1 (rowS l))), (5, vI p.length)], [(base, rp E T lv 0 0)]⟩ ⟨⟨.inl g0.symm, .inl g1.symm, .inl g5.symm, trivial⟩, ⟨WkB.box gb, trivial⟩⟩ ?_
    have hlen : l.length = p.length + r.length := by rw [h]; simp
    cases r with
    | nil =>
      refine WP.iteF (by simp only [rowS, List.length_map]; simp at hlen; simp; omega) ?_
      exact WP.leaf ⟨⟨[], [(base, rp E T lv 0 0)]⟩, ⟨trivial, ⟨WkB.box rfl, trivial⟩⟩, hE (by rw [h]; simpa using hp)⟩
    | cons y r =>
      simp only [List.length_cons] at hlen
      have hd : l.drop p.length = y :: r := by rw [h]; simp
      refine WP.iteT (by simp only [rowS, List.length_map]; simp; omega) ?_
      refine WP.idx _ (by omega) (rowS_get hd) ?_
      refine WP.use1 (is_ok hA lv y) ?_
      cases hy : isT t y with
      | true =>
        refine WP.iteT rfl ?_
        refine WP.idx _ (by omega) (rowS_get hd) ?_
        have hs : t.s = y := by unfold isT at hy; simp at hy; exact hy.2
        refine WP.leaf ⟨⟨[(4, vS t.s)], [(base, rp E T lv 0 0)]⟩, ⟨⟨.inl (by rw [hs]; rfl), trivial⟩, ⟨WkB.box rfl, trivial⟩⟩, hR (by rw [h]; simp [hy])⟩
      | false =>
        refine WP.iteF rfl ?_
        refine WP.leaf ?_
        refine one_loop hA lv l hl K Q hE hR r (p ++ [y]) (by rw [h]; simp) (by rw [List.any_append, hp]; simp [hy]) _ rfl rfl ?_ rfl
        show vI (IntKind.i64.wrap ((p.length : Int) + 1)) = _
        rw [wrapI (by omega) (by omega)]; simp
/-- the text of the next token, if it is one of these -/
def oneOf (t : Tk) (l : List ByteArray) : ByteArray := if isAny t l = true then t.s else .empty
theorem any_isT (t : Tk) (l : List ByteArray) : (l.any fun x => isT t x) = isAny t l := by
  unfold isT isAny
  induction l with
  | nil => simp
  | cons x r ih => rw [List.any_cons, List.any_cons, ih]; cases (decide (t.k = 5) || decide (t.k = 4)) <;> simp
theorem one_ok {E : REnv} {T : Nat} {t : Tk} {r : List Tk} (hA : RAt E T t r) (lv : Int) (l : List ByteArray) (hl : l.length ≤ 1048576) : Does X 104 [.box base 0, .d (.sl 1 (rowS l))] [rp E T lv 0 0] (.ret (vS (oneOf t l)) [rp E T lv 0 0]) := by
  refine DoesQ.eq (DoesQ.of Tryz.func104 (by kernel_rfl) ?_)
  refine one_loop hA lv l hl _ _ ?_ ?_ l [] rfl rfl _ rfl rfl rfl rfl
  · intro h; rw [any_isT] at h; exact WP.leaf (by unfold oneOf; rw [h]; rfl)
  · intro h; rw [any_isT] at h; exact WP.leaf (by unfold oneOf; rw [h]; rfl)
theorem one_loopB {E : REnv} {T lv : Int} {q : Flt} (hq : q.c ≠ 0) (l : List ByteArray) (hl : l.length ≤ 1048576) (K : Ex → St → Id.T Out) (Q : Out → Prop)
    (hE : WP X (K (.exit 0) ⟨[], [(base, rp E T lv (q.c : Nat) (q.a : Nat))]⟩) Q) :
    ∀ (r p : List ByteArray), l = p ++ r → ∀ (e w : Int), RB E T lv e w q → (r = [] → e = (q.c : Nat) ∧ w = (q.a : Nat)) → ∀ σ : St, getT σ.t 0 = .box base 0 → getT σ.t 1 = .d (.sl 1 (rowS l)) → getT σ.t 5 = vI p.length → getB σ.b base = some (rp E T lv e w) → WP X (.loop (lp Tryz.f104 0) σ K) Q
  | r, p, h, e, w, hb, hr, σ, g0, g1, g5, gb => by
    refine WP.round ⟨[(0, .box base 0), (1, .d (.sl 1 (rowS l))), (5, vI p.length)], [(base, rp E T lv e w)]⟩ ⟨⟨.inl g0.symm, .inl g1.symm, .inl g5.symm, trivial⟩, ⟨WkB.box gb, trivial⟩⟩ ?_
    have hlen : l.length = p.length + r.length := by rw [h]; simp
    cases r with
    | nil =>
      obtain ⟨rfl, rfl⟩ := hr rfl
      refine WP.iteF (by simp only [rowS, List.length_map]; simp at hlen; simp; omega) ?_
      exact WP.leaf ⟨⟨[], [(base, rp E T lv (q.c : Nat) (q.a : Nat))]⟩, ⟨trivial, ⟨WkB.box rfl, trivial⟩⟩, hE⟩
    | cons y r =>
      simp only [List.length_cons] at hlen
      have hd : l.drop p.length = y :: r := by rw [h]; simp
      refine WP.iteT (by simp only [rowS, List.length_map]; simp; omega) ?_
      refine WP.idx _ (by omega) (rowS_get hd) ?_
      refine WP.use1 (is_bad hb y) ?_
      refine WP.iteF rfl ?_
      refine WP.leaf ?_
      refine one_loopB hq l hl K Q hE r (p ++ [y]) (by rw [h]; simp) _ _ hb.die (fun _ => ⟨rfl, rfl⟩) _ rfl rfl ?_ rfl
      show vI (IntKind.i64.wrap ((p.length : Int) + 1)) = _
      rw [wrapI (by omega) (by omega)]; simp
theorem one_bad {E : REnv} {T lv e w : Int} {q : Flt} (hb : RB E T lv e w q) (l : List ByteArray) (hl : l.length ≤ 1048576) (hne : l ≠ []) : Does X 104 [.box base 0, .d (.sl 1 (rowS l))] [rp E T lv e w] (.ret (vS .empty) [rp E T lv (q.c : Nat) (q.a : Nat)]) := by
  refine DoesQ.eq (DoesQ.of Tryz.func104 (by kernel_rfl) ?_)
  refine one_loopB hb.nz l hl _ _ ?_ l [] rfl e w hb (fun h => absurd h hne) _ rfl rfl rfl rfl
  exact WP.leaf rfl
/-! ### types -/
abbrev rT (x : Int) (c : List V) : Out := .ret (vI x) [c]
theorem isAny_s {t : Tk} {l : List ByteArray} (h : isAny t l = true) : oneOf t l = t.s := by unfold oneOf; rw [if_pos h]
theorem isAny_n {t : Tk} {l : List ByteArray} (h : isAny t l = false) : oneOf t l = .empty := by unfold oneOf; rw [if_neg (by simp [h])]
theorem typ_f (lv : Int) : Rf X 98 [.box base 0] lv lv pType rT := by
  intro E T t r hA hne
  refine DoesQ.of Tryz.func98 (by kernel_rfl) ?_
  refine WP.use1 (one_ok hA lv [kInt, kBool, kText] (by decide)) ?_
  have e : runG pType (t :: r) = runG (match isAny t [kInt, kBool, kText] with | true => .next (.ret (if t.s = kInt then (1 : Int) else if t.s = kBool then 2 else 3)) | false => .err 140) (t :: r) := rfl
  rw [e]
  cases h : isAny t [kInt, kBool, kText] with
  | false =>
    rw [isAny_n h]
    refine WP.iteT rfl ?_
    refine WP.use1 (wrong_ok hA lv) ?_
    exact WP.leaf (RPost.mkErr (x := 0) hA (by decide) rfl)
  | true =>
    rw [isAny_s h]
    have hm := isAny_mem h
    have hne : t.s ≠ .empty := by
      intro e; rw [e] at hm
      simp only [List.mem_cons, List.not_mem_nil, or_false] at hm
      rcases hm with h | h | h <;> exact absurd h (by decide)
    refine WP.iteF (decide_eq_false hne) ?_
    by_cases h1 : t.s = kInt
    · refine WP.iteT (decide_eq_true h1) ?_
      refine WP.leaf (RPost.next hA (isAny_k h) ?_)
      rw [if_pos h1, ← tk_wrap hA]
    · refine WP.iteF (decide_eq_false h1) ?_
      by_cases h2 : t.s = kBool
      · refine WP.iteT (decide_eq_true h2) ?_
        refine WP.leaf (RPost.next hA (isAny_k h) ?_)
        rw [if_neg h1, if_pos h2, ← tk_wrap hA]
      · refine WP.iteF (decide_eq_false h2) ?_
        refine WP.leaf (RPost.next hA (isAny_k h) ?_)
        rw [if_neg h1, if_neg h2, ← tk_wrap hA]
theorem typ_b : Rb X 98 [.box base 0] rT := by
  intro E T lv e w q hb
  refine DoesQ.of Tryz.func98 (by kernel_rfl) ?_
  refine WP.use1 (one_bad hb [kInt, kBool, kText] (by decide) (by simp)) ?_
  refine WP.iteT rfl ?_
  refine WP.use1 (wrong_bad (hb.die (lv' := lv))) ?_
  exact WP.leaf ⟨0, _, _, _, _, hb.die, rfl⟩
/-! ### operators -/
theorem rsigns (k : Nat) : Does X 105 [vI k] [] (.ret (.d (.sl 1 (rowS (signs k)))) []) := by
  refine DoesQ.eq (DoesQ.of Tryz.func105 (by kernel_rfl) ?_)
  match k with
  | 0 => exact WP.iteT rfl (WP.leaf rfl)
  | 1 => exact WP.iteF rfl (WP.iteT rfl (WP.leaf rfl))
  | 2 => exact WP.iteF rfl (WP.iteF rfl (WP.iteT rfl (WP.leaf rfl)))
  | 3 => exact WP.iteF rfl (WP.iteF rfl (WP.iteF rfl (WP.iteT rfl (WP.leaf rfl))))
  | n + 4 =>
    refine WP.iteF (decide_eq_false (by omega)) ?_
    refine WP.iteF (decide_eq_false (by omega)) ?_
    refine WP.iteF (decide_eq_false (by omega)) ?_
    refine WP.iteF (decide_eq_false (by omega)) ?_
    exact WP.leaf rfl
def opsZ : List Int := [1, 2, 3, 4, 5, 6, 7, 8, 9, 10, 11, 12, 13, 14]
theorem ops_get : ∀ i : Fin 14, (opsZ.map fun z => [cZ z])[i.val]? = some [cZ ((i.val + 1 : Nat) : Int)] := fun i => by
  match i with
  | ⟨0, _⟩ => rfl
  | ⟨1, _⟩ => rfl
  | ⟨2, _⟩ => rfl
  | ⟨3, _⟩ => rfl
  | ⟨4, _⟩ => rfl
  | ⟨5, _⟩ => rfl
  | ⟨6, _⟩ => rfl
  | ⟨7, _⟩ => rfl
  | ⟨8, _⟩ => rfl
  | ⟨9, _⟩ => rfl
  | ⟨10, _⟩ => rfl
  | ⟨11, _⟩ => rfl
  | ⟨12, _⟩ => rfl
  | ⟨13, _⟩ => rfl
theorem rop_loop (s : ByteArray) (K : Ex → St → Id.T Out) (Q : Out → Prop) (hE : opOf s = 0 → WP X (K (.exit 0) ⟨[], []⟩) Q) (hR : ∀ i : Nat, opOf s = i → i ≠ 0 → WP X (K .ret ⟨[(2, vI i)], []⟩) Q) :
    ∀ (r : List ByteArray) (i : Nat), opSigns.drop i = r → opGo r s (i + 1) = opGo opSigns s 1 → i ≤ 14 → ∀ σ : St, getT σ.t 0 = vS s → getT σ.t 3 = .own (6, here) 1 (rowS opSigns) → getT σ.t 4 = .own (7, here) 1 (opsZ.map fun z => [cZ z]) → getT σ.t 5 = vI i → WP X (.loop (lp Tryz.f106 0) σ K) Q
  | r, i, h, he, hi, σ, g0, g3, g4, g5 => by
    refine WP.round ⟨[(0, vS s), (3, .own (6, here) 1 (rowS opSigns)), (4, .own (7, here) 1 (opsZ.map fun z => [cZ z])), (5, vI i)], []⟩ ⟨⟨.inl g0.symm, .inl g3.symm, .inl g4.symm, .inl g5.symm, trivial⟩, trivial⟩ ?_
    cases r with
    | nil =>
      have h1 : 14 ≤ i := drop_none h
      refine WP.iteF (decide_eq_false (by show ¬ (i : Int) < 14; omega)) ?_
      exact WP.leaf ⟨⟨[], []⟩, ⟨trivial, trivial⟩, hE (by unfold opOf; rw [← he]; rfl)⟩
    | cons x r =>
      have h1 : i < 14 := (drop_some h).1
      refine WP.iteT (decide_eq_true (by show (i : Int) < 14; omega)) ?_
      refine WP.idx _ (by omega) (rowS_get h) ?_
      refine WP.dec (fun hx => ?_) (fun hx => ?_)
      · have hx : s = x := hx.symm
        refine WP.idx _ (by omega) (ops_get ⟨i, h1⟩) ?_
        refine WP.leaf ⟨⟨[(2, vI ((i + 1 : Nat) : Int))], []⟩, ⟨⟨.inl rfl, trivial⟩, trivial⟩, hR (i + 1) ?_ (by omega)⟩
        unfold opOf; rw [← he]; unfold opGo; rw [decide_eq_true hx]
      · refine WP.leaf (rop_loop s K Q hE hR r (i + 1) (drop_some h).2.2 ?_ (by omega) _ rfl rfl rfl ?_)
        · rw [← he]; conv => rhs; unfold opGo
          rw [decide_eq_false (fun e => hx e.symm)]
        · show vI (IntKind.i64.wrap ((i : Int) + 1)) = _
          rw [wrapI (by omega) (by omega)]; rfl
theorem rop_fn (s : ByteArray) : Does X 106 [vS s] [] (.ret (vI (opOf s)) []) := by
  refine DoesQ.eq (DoesQ.of Tryz.func106 (by kernel_rfl) ?_)
  refine rop_loop s _ _ ?_ ?_ opSigns 0 rfl rfl (by omega) _ rfl rfl rfl rfl
  · intro h; exact WP.leaf (by rw [h])
  · intro i h _; exact WP.leaf (by rw [h])
end Go.Proofs.YtacfbgfphkfobaaGreatDoor.Id
/-! ## PaRefC -/
namespace Go.Proofs.YtacfbgfphkfobaaGreatDoor.Id
open Go
set_option linter.unusedVariables false
set_option linter.unusedSimpArgs false
set_option maxRecDepth 100000
variable {X : Given}
theorem Rf.useP {α β γ : Type} {g : FuncId} {args : List V} {lv lv1 : Int} {p : Gr α} {ro : α → List V → Out} {h : α → Gr β} {k : Out → Id.T γ} {E : REnv} {T : Nat} {t : Tk} {r : List Tk} {P : Rs β → γ → Prop}
    (hD : Rf X g args lv lv1 p ro) (hA : RAt E T t r) (hne : runG (p.bind h) (t :: r) ≠ .out)
    (hok : ∀ x T t r, RAt E T t r → runG (h x) (t :: r) ≠ .out → WP X (k (ro x (rp E (T : Nat) lv1 0 0))) (P (runG (h x) (t :: r))))
    (hbad : ∀ x T lv e w q res', RB E T lv e w q → IsBad E res' q → WP X (k (ro x (rp E T lv e w))) (P res')) :
    WP X (.call g args [rp E T lv 0 0] k) (P (runG (p.bind h) (t :: r))) := by
  rw [runG_bind] at hne ⊢
  exact Rf.seq (P := P) (hD E T t r hA fun e => hne (by rw [e]; rfl)) hne hok hbad
/-- a call behind p.at++ -/
theorem RAt.stepD {α : Type} {g : FuncId} {args : List V} {lv lv1 : Int} {p : Gr α} {ro : α → List V → Out} {E : REnv} {T : Nat} {t : Tk} {r : List Tk} (h : RAt E T t r) (hk : t.k ≠ 0) (hf : Rf X g args lv lv1 p ro) (hb : Rb X g args ro) (hne : runG (.next p) (t :: r) ≠ .out) :
    DoesQ X g args [rp E (IntKind.i64.wrap ((T : Int) + 1)) lv 0 0] (RPost E lv1 ro (runG (.next p) (t :: r))) := by
  rw [tk_wrap h]
  have hn := h.next hk
  cases r with
  | nil =>
    refine (hb E _ _ _ _ _ (RPend.bad hn lv)).mono fun o ho => ?_
    exact ⟨_, RPend.isBad hn, ho⟩
  | cons u r => exact hf E _ u r hn hne
theorem Rf.useN {α β γ : Type} {g : FuncId} {args : List V} {lv lv1 : Int} {p : Gr α} {ro : α → List V → Out} {h : α → Gr β} {k : Out → Id.T γ} {E : REnv} {T : Nat} {t : Tk} {r : List Tk} {P : Rs β → γ → Prop}
    (hD : Rf X g args lv lv1 p ro) (hB : Rb X g args ro) (hA : RAt E T t r) (hk : t.k ≠ 0) (hne : runG (.next (p.bind h)) (t :: r) ≠ .out)
    (hok : ∀ x T t r, RAt E T t r → runG (h x) (t :: r) ≠ .out → WP X (k (ro x (rp E (T : Nat) lv1 0 0))) (P (runG (h x) (t :: r))))
    (hbad : ∀ x T lv e w q res', RB E T lv e w q → IsBad E res' q → WP X (k (ro x (rp E T lv e w))) (P res')) :
    WP X (.call g args [rp E (IntKind.i64.wrap ((T : Int) + 1)) lv 0 0] k) (P (runG (.next (p.bind h)) (t :: r))) := by
  have e : runG (.next (p.bind h)) (t :: r) = (runG (.next p) (t :: r)).bind fun x r => runG (h x) r := runG_bind (.next p) h _
  rw [e] at hne ⊢
  exact Rf.seq (P := P) (hA.stepD hk hD hB fun e => hne (by rw [e]; rfl)) hne hok hbad
theorem BadO.postE {α γ : Type} {E : REnv} {lv : Int} {ro : α → List V → Out} {q : Flt} {res : Rs α} {t : Id.T Out} (h : WP X t (BadO E ro q)) (hr : IsBad E res q) : WP X t (RPost E lv ro res) := h.mono fun o ho => BadO.post ho hr
abbrev rE (x : TExpr) (c : List V) : Out := .ret (.agg (eD x)) [c]
abbrev LineR (X : Given) (n : Nat) : Prop := ∀ k d : Nat, k ≤ 5 → d ≤ 64 → Rf X 70 [.box base 0, vI k] d d (pLine n k d) rE
abbrev UnR (X : Given) (n : Nat) : Prop := ∀ d : Nat, d ≤ 64 → Rf X 103 [.box base 0] d d (pUnary n d) rE
abbrev PrimR (X : Given) (n : Nat) : Prop := ∀ d : Nat, d ≤ 64 → Rf X 130 [.box base 0] d d (pPrim n d) rE
abbrev LineBR (X : Given) : Prop := ∀ k : Nat, k ≤ 5 → Rb X 70 [.box base 0, vI (k : Nat)] rE
theorem Rf.out {α : Type} {g : FuncId} {args : List V} {lv lv' : Int} {ro : α → List V → Out} : Rf X g args lv lv' .out ro := fun E T t r _ h => absurd rfl h
theorem signs_ne : ∀ k : Fin 5, (signs k.val).any (fun s => decide (s = .empty)) = false := by decide +kernel
theorem sign_ne {t : Tk} {k : Nat} (h : isAny t (signs k) = true) : t.s ≠ .empty := fun e => by
  have h1 := isAny_mem h
  rw [signs_le, e] at h1
  have h2 := signs_ne ⟨min k 4, by omega⟩
  rw [List.any_eq_false] at h2
  have := h2 _ h1
  simp at this
theorem signs_lens : ∀ k : Fin 5, (signs k.val).length ≤ 6 ∧ 1 ≤ (signs k.val).length := by decide +kernel
theorem signs_len (k : Nat) : (signs k).length ≤ 1048576 := by
  rw [signs_le]
  have := signs_lens ⟨min k 4, by omega⟩
  simp only at this; omega
theorem signs_nil (k : Nat) : signs k ≠ [] := fun e => by
  have := signs_lens ⟨min k 4, by omega⟩
  rw [signs_le] at e
  simp only at this
  rw [e] at this; simp at this
/-- operators of one line -/
theorem tail_loopR (k d : Nat) (hk : k < 5) (hd : d ≤ 64) (hB : LineBR X) (E : REnv) (K : Ex → St → Id.T Out) (P : Rs TExpr → Out → Prop)
    (hR : ∀ e T t r, RAt E T t r → WP X (K .ret ⟨[(4, .box 4 0)], [(base, rp E (T : Nat) d 0 0), (4, eV e)]⟩) (P (.ok e (t :: r))))
    (hRB : ∀ e T lv w1 w2 q res, RB E T lv w1 w2 q → IsBad E res q → WP X (K .ret ⟨[(4, .box 4 0)], [(base, rp E T lv w1 w2), (4, eV e)]⟩) (P res))
    (hEB : ∀ e T lv w1 w2 q res, RB E T lv w1 w2 q → IsBad E res q → WP X (K (.exit 0) ⟨[(4, .box 4 0), (5, .box 5 0)], [(base, rp E T lv w1 w2), (4, e0V), (5, eV e)]⟩) (P res)) :
    ∀ n, (∀ m, m < n → LineR X m) → ∀ e T t r, RAt E T t r → runG (pTail n k d e) (t :: r) ≠ .out → ∀ σ : St, getT σ.t 0 = .box base 0 → getT σ.t 1 = vI k → getT σ.t 4 = .box 4 0 → getT σ.t 5 = .box 5 0 → getB σ.b base = some (rp E (T : Nat) d 0 0) → getB σ.b 4 = some e0V → getB σ.b 5 = some (eV e) →
      WP X (.loop (lp Tryz.f70 0) σ K) (P (runG (pTail n k d e) (t :: r)))
  | 0, _, e, T, t, r, _, h, _, _, _, _, _, _, _, _ => absurd rfl h
  | n + 1, hl, e, T, t, r, hA, hne, σ, g0, g1, g4, g5, gb, gb4, gb5 => by
    refine WP.round ⟨[(0, .box base 0), (1, vI k), (4, .box 4 0), (5, .box 5 0)], [(base, rp E (T : Nat) d 0 0), (4, e0V), (5, eV e)]⟩ ⟨⟨.inl g0.symm, .inl g1.symm, .inl g4.symm, .inl g5.symm, trivial⟩, ⟨WkB.box gb, WkB.box gb4, WkB.box gb5, trivial⟩⟩ ?_
    refine WP.use1 (fine_ok _ _) ?_
    refine WP.iteT rfl ?_
    refine WP.use1 (rsigns k) ?_
    refine WP.use1 (one_ok hA d (signs k) (signs_len k)) ?_
    have e1 : runG (pTail (n + 1) k d e) (t :: r) = runG (match isAny t (signs k) with
      | true => .next ((pLine n (k + 1) d).bind fun e2 => match decide (k = 2) with
        | true => .ret (bin t.a t.s e e2)
        | false => pTail n k d (bin t.a t.s e e2))
      | false => .ret e) (t :: r) := by rw [pTail]; rfl
    rw [e1] at hne ⊢
    cases h : isAny t (signs k) with
    | false =>
      rw [isAny_n h]
      refine WP.iteT rfl ?_
      exact WP.leaf ⟨⟨[(4, .box 4 0)], [(base, rp E (T : Nat) d 0 0), (4, eV e)]⟩, ⟨⟨.inl rfl, trivial⟩, ⟨WkB.box rfl, WkB.box rfl, trivial⟩⟩, hR e T t r hA⟩
    | true =>
      rw [isAny_s h]
      rw [h] at hne
      have hw : IntKind.i64.wrap ((k : Int) + 1) = ((k + 1 : Nat) : Int) := by rw [wrapI (by omega) (by omega)]; rfl
      have hL := hl n (Nat.lt_succ_self n) (k + 1) d (by omega) hd
      have hLB := hB (k + 1) (by omega)
      rw [← hw] at hL hLB
      refine WP.iteF (decide_eq_false (sign_ne h)) ?_
      refine WP.use1 (lk_ok hA d) ?_
      refine Rf.useN (P := fun res => Round X _ K (P res)) hL hLB hA (isAny_k h) hne ?_ ?_
      · intro e2 T' t' r' hA' hne'
        refine WP.asrt (by kernel_rfl) ?_
        refine WP.use1 (rop_fn t.s) ?_
        refine WP.asrt (by kernel_rfl) ?_
        by_cases h2 : k = 2
        · rw [decide_eq_true h2]
          refine WP.iteT (decide_eq_true (by omega)) ?_
          refine WP.leaf ⟨⟨[(4, .box 4 0)], [(base, rp E (T' : Nat) d 0 0), (4, eV (bin t.a t.s e e2))]⟩, ⟨⟨.inl rfl, trivial⟩, ⟨WkB.box rfl, WkB.box ?_, trivial⟩⟩, hR _ T' t' r' hA'⟩
          show some _ = some [_, _, _, _, _, _, _, _, _, V.d (.sl 10 (dsAll [e, e2]))]
          rw [dsAll2]; rfl
        · rw [decide_eq_false h2] at hne' ⊢
          refine WP.iteF (decide_eq_false (by omega)) ?_
          refine WP.leaf ?_
          refine tail_loopR k d hk hd hB E K P hR hRB hEB n (fun m hm => hl m (by omega)) (bin t.a t.s e e2) T' t' r' hA' hne' _ rfl rfl rfl rfl rfl rfl ?_
          show some _ = some [_, _, _, _, _, _, _, _, _, V.d (.sl 10 (dsAll [e, e2]))]
          rw [dsAll2]; rfl
      · intro e2 T' lv e' w q res hb hr
        have hbin : some [vI 5, vI t.a, vS b0, vS b0, vI 0, vI 0, vB false, vS b0, vI (opOf t.s), V.d (.sl 10 [eD e, eD e2])] = some (eV (bin t.a t.s e e2)) := by
          show some _ = some [_, _, _, _, _, _, _, _, _, V.d (.sl 10 (dsAll [e, e2]))]
          rw [dsAll2]; rfl
        refine WP.asrt (by kernel_rfl) ?_
        refine WP.use1 (rop_fn t.s) ?_
        refine WP.asrt (by kernel_rfl) ?_
        by_cases h2 : k = 2
        · refine WP.iteT (decide_eq_true (by omega)) ?_
          exact WP.leaf ⟨⟨[(4, .box 4 0)], [(base, rp E T' lv e' w), (4, eV (bin t.a t.s e e2))]⟩, ⟨⟨.inl rfl, trivial⟩, ⟨WkB.box rfl, WkB.box hbin, trivial⟩⟩, hRB _ _ _ _ _ _ _ hb hr⟩
        · refine WP.iteF (decide_eq_false (by omega)) ?_
          refine WP.leaf ?_
          refine WP.round ⟨[(0, .box base 0), (1, vI k), (4, .box 4 0), (5, .box 5 0)], [(base, rp E T' lv e' w), (4, e0V), (5, eV (bin t.a t.s e e2))]⟩ ⟨⟨.inl rfl, .inl rfl, .inl rfl, .inl rfl, trivial⟩, ⟨WkB.box rfl, WkB.box rfl, WkB.box hbin, trivial⟩⟩ ?_
          rcases hb with ⟨he, hw', hq⟩ | ⟨rfl, rfl, hq, m, rfl, hp⟩
          · refine WP.use1 (fine_dead (by omega)) ?_
            refine WP.iteF rfl ?_
            exact WP.leaf ⟨⟨[(4, .box 4 0), (5, .box 5 0)], [(base, rp E T' lv e' w), (4, e0V), (5, eV (bin t.a t.s e e2))]⟩, ⟨⟨.inl rfl, .inl rfl, trivial⟩, ⟨WkB.box rfl, WkB.box rfl, WkB.box rfl, trivial⟩⟩, hEB _ _ _ _ _ _ _ (.inl ⟨he, hw', hq⟩) hr⟩
          · have hb' : RB E (m : Int) lv 0 0 q := .inr ⟨rfl, rfl, hq, m, rfl, hp⟩
            refine WP.use1 (fine_ok _ _) ?_
            refine WP.iteT rfl ?_
            refine WP.use1 (rsigns k) ?_
            refine WP.use1 (one_bad hb' (signs k) (signs_len k) (signs_nil k)) ?_
            refine WP.iteT rfl ?_
            exact WP.leaf ⟨⟨[(4, .box 4 0)], [(base, rp E m lv (q.c : Nat) (q.a : Nat)), (4, eV (bin t.a t.s e e2))]⟩, ⟨⟨.inl rfl, trivial⟩, ⟨WkB.box rfl, WkB.box rfl, trivial⟩⟩, hRB _ _ _ _ _ _ _ (hb'.die) hr⟩
abbrev UnB (X : Given) : Prop := Rb X 103 [.box base 0] rE
theorem line_b (hU : UnB X) : ∀ j, j ≤ 5 → Rb X 70 [.box base 0, vI ((5 - j : Nat) : Int)] rE
  | 0, _ => by
    intro E T lv e w q hb
    refine DoesQ.of Tryz.func70 (by kernel_rfl) ?_
    refine WP.iteT rfl ?_
    refine Rb.use hU hb ?_
    intro x T lv e w hb
    exact WP.leaf ⟨x, T, lv, e, w, hb, rfl⟩
  | j + 1, hj => by
    intro E T lv e w q hb
    have ih := line_b hU j (by omega)
    have hw : IntKind.i64.wrap (((5 - (j + 1) : Nat) : Int) + 1) = ((5 - j : Nat) : Int) := by rw [wrapI (by omega) (by omega)]; omega
    rw [← hw] at ih
    refine DoesQ.of Tryz.func70 (by kernel_rfl) ?_
    refine WP.iteF (decide_eq_false (by omega)) ?_
    refine Rb.use ih hb ?_
    intro x T lv e w hb
    refine WP.round ⟨[(0, .box base 0), (1, vI ((5 - (j + 1) : Nat) : Int)), (4, .box 4 0), (5, .box 5 0)], [(base, rp E T lv e w), (4, e0V), (5, eV x)]⟩ ⟨⟨.inl rfl, .inl rfl, .inl rfl, .inl rfl, trivial⟩, ⟨WkB.box rfl, WkB.box rfl, WkB.box rfl, trivial⟩⟩ ?_
    rcases hb with ⟨he, hw', hq⟩ | ⟨rfl, rfl, hq, m, rfl, hp⟩
    · refine WP.use1 (fine_dead (by omega)) ?_
      refine WP.iteF rfl ?_
      refine WP.leaf ⟨⟨[(4, .box 4 0), (5, .box 5 0)], [(base, rp E T lv e w), (4, e0V), (5, eV x)]⟩, ⟨⟨.inl rfl, .inl rfl, trivial⟩, ⟨WkB.box rfl, WkB.box rfl, WkB.box rfl, trivial⟩⟩, ?_⟩
      exact WP.leaf ⟨x, T, lv, e, w, .inl ⟨he, hw', hq⟩, rfl⟩
    · have hb' : RB E (m : Int) lv 0 0 q := .inr ⟨rfl, rfl, hq, m, rfl, hp⟩
      refine WP.use1 (fine_ok _ _) ?_
      refine WP.iteT rfl ?_
      refine WP.use1 (rsigns (5 - (j + 1))) ?_
      refine WP.use1 (one_bad hb' _ (signs_len _) (signs_nil _)) ?_
      refine WP.iteT rfl ?_
      refine WP.leaf ⟨⟨[(4, .box 4 0)], [(base, rp E m lv (q.c : Nat) (q.a : Nat)), (4, eV x)]⟩, ⟨⟨.inl rfl, trivial⟩, ⟨WkB.box rfl, WkB.box rfl, trivial⟩⟩, ?_⟩
      exact WP.leaf ⟨x, m, lv, _, _, hb'.die, rfl⟩
theorem line_bad (hU : UnB X) : LineBR X := fun k hk => by
  have := line_b hU (5 - k) (by omega)
  rw [show 5 - (5 - k) = k by omega] at this; exact this
theorem line_stepR (hB : LineBR X) {n : Nat} (hl : ∀ m, m < n → LineR X m) (hu : ∀ m, m < n → UnR X m) : LineR X n := fun k d hk hd => by
  cases n with
  | zero => exact Rf.out
  | succ n =>
    intro E T t r hA hne
    refine DoesQ.of Tryz.func70 (by kernel_rfl) ?_
    by_cases h5 : k = 5
    · have e1 : pLine (n + 1) k d = (pUnary n d).bind fun e => .ret e := by
        rw [pLine, decide_eq_true h5]
        have : ∀ p : Gr TExpr, p = p.bind fun e => .ret e := fun p => by
          induction p with
          | ret x => rfl
          | look f ih => simp only [Gr.bind]; congr 1; funext t; exact ih t
          | next g ih => simp only [Gr.bind]; congr 1
          | err e => rfl
          | out => rfl
        exact this _
      rw [e1] at hne ⊢
      refine WP.iteT (decide_eq_true (by omega)) ?_
      refine Rf.use (hu n (Nat.lt_succ_self n) d hd) hA hne ?_ ?_
      · intro e T t r hA hne
        exact WP.leaf ⟨T, t, r, rfl, hA, rfl⟩
      · intro e T lv e' w q hb
        exact WP.leaf ⟨e, T, lv, e', w, hb, rfl⟩
    · have e1 : pLine (n + 1) k d = (pLine n (k + 1) d).bind fun e => pTail n k d e := by rw [pLine, decide_eq_false h5]
      rw [e1] at hne ⊢
      have hw : IntKind.i64.wrap ((k : Int) + 1) = ((k + 1 : Nat) : Int) := by rw [wrapI (by omega) (by omega)]; rfl
      have hL := hl n (Nat.lt_succ_self n) (k + 1) d (by omega) hd
      rw [← hw] at hL
      refine WP.iteF (decide_eq_false (by omega)) ?_
      refine Rf.use hL hA hne ?_ ?_
      · intro e T t r hA hne
        refine tail_loopR k d (by omega) hd hB E _ (RPost E d rE) ?_ ?_ ?_ n (fun m hm => hl m (by omega)) e T t r hA hne _ rfl rfl rfl rfl rfl rfl rfl
        · intro e T t r hA
          exact WP.leaf ⟨T, t, r, rfl, hA, rfl⟩
        · intro e T lv w1 w2 q res hb hr
          exact WP.leaf (BadO.post ⟨e, T, lv, w1, w2, hb, rfl⟩ hr)
        · intro e T lv w1 w2 q res hb hr
          exact WP.leaf (BadO.post ⟨e, T, lv, w1, w2, hb, rfl⟩ hr)
      · intro x T lv e w q hb
        refine WP.round ⟨[(0, .box base 0), (1, vI k), (4, .box 4 0), (5, .box 5 0)], [(base, rp E T lv e w), (4, e0V), (5, eV x)]⟩ ⟨⟨.inl rfl, .inl rfl, .inl rfl, .inl rfl, trivial⟩, ⟨WkB.box rfl, WkB.box rfl, WkB.box rfl, trivial⟩⟩ ?_
        rcases hb with ⟨he, hw', hq⟩ | ⟨rfl, rfl, hq, m, rfl, hp⟩
        · refine WP.use1 (fine_dead (by omega)) ?_
          refine WP.iteF rfl ?_
          refine WP.leaf ⟨⟨[(4, .box 4 0), (5, .box 5 0)], [(base, rp E T lv e w), (4, e0V), (5, eV x)]⟩, ⟨⟨.inl rfl, .inl rfl, trivial⟩, ⟨WkB.box rfl, WkB.box rfl, WkB.box rfl, trivial⟩⟩, ?_⟩
          exact WP.leaf ⟨x, T, lv, e, w, .inl ⟨he, hw', hq⟩, rfl⟩
        · have hb' : RB E (m : Int) lv 0 0 q := .inr ⟨rfl, rfl, hq, m, rfl, hp⟩
          refine WP.use1 (fine_ok _ _) ?_
          refine WP.iteT rfl ?_
          refine WP.use1 (rsigns k) ?_
          refine WP.use1 (one_bad hb' _ (signs_len _) (signs_nil _)) ?_
          refine WP.iteT rfl ?_
          refine WP.leaf ⟨⟨[(4, .box 4 0)], [(base, rp E m lv (q.c : Nat) (q.a : Nat)), (4, eV x)]⟩, ⟨⟨.inl rfl, trivial⟩, ⟨WkB.box rfl, WkB.box rfl, trivial⟩⟩, ?_⟩
          exact WP.leaf ⟨x, m, lv, _, _, hb'.die, rfl⟩
end Go.Proofs.YtacfbgfphkfobaaGreatDoor.Id
/-! ## PaRefD -/
namespace Go.Proofs.YtacfbgfphkfobaaGreatDoor.Id
open Go
set_option linter.unusedVariables false
set_option linter.unusedSimpArgs false
set_option maxRecDepth 100000
set_option maxHeartbeats 1000000
variable {X : Given}
theorem rtext (s : ByteArray) (hs : s.size ≤ 1048576) : ∃ z, Does X 94 [vS s] [] (.ret (.tuple [vS (txtZ s), vI z]) []) := by
  have hz := L_length s
  cases hl : L s with
  | nil =>
    rw [hl] at hz
    have hz0 : s.size = 0 := hz.symm
    refine ⟨122, DoesQ.eq (DoesQ.of Tryz.func94 (by kernel_rfl) ?_)⟩
    refine WP.iteT (decide_eq_true (by omega)) ?_
    exact WP.leaf (by unfold txtZ; rw [hl]; rfl)
  | cons c r =>
    rw [hl] at hz
    simp only [List.length_cons] at hz
    obtain ⟨hb, hi⟩ := bt_drop (s := s) (i := 0) (c := c) (r := r) (by rw [hl]; rfl)
    have hq := rquoted (X := X) s hs 0 c r (by rw [hl]; rfl)
    have et : txtZ s = if c.toNat = 34 then (match quo r with | none => b0 | some (t, n) => if n = r.length + 1 then mkB t else b0) else b0 := by
      unfold txtZ; rw [hl]; rfl
    rw [et]
    by_cases h34 : c.toNat = 34
    · rw [if_pos h34]
      cases hqq : quo r with
      | none =>
        rw [hqq] at hq
        refine ⟨122, DoesQ.eq (DoesQ.of Tryz.func94 (by kernel_rfl) ?_)⟩
        refine WP.iteF (decide_eq_false (by omega)) ?_
        refine WP.asrt (by omega) ?_
        refine WP.iteF (by rw [show bt s 0 = _ from hb]; simp [h34]) ?_
        refine WP.use1 hq ?_
        refine WP.iteT (by first | (simp; done) | (simp; omega)) ?_
        exact WP.leaf rfl
      | some x =>
        obtain ⟨t, n⟩ := x
        rw [hqq] at hq
        by_cases hn : n = r.length + 1
        · refine ⟨0, DoesQ.eq (DoesQ.of Tryz.func94 (by kernel_rfl) ?_)⟩
          refine WP.iteF (decide_eq_false (by omega)) ?_
          refine WP.asrt (by omega) ?_
          refine WP.iteF (by rw [show bt s 0 = _ from hb]; simp [h34]) ?_
          refine WP.use1 hq ?_
          refine WP.iteF (by simp; omega) ?_
          exact WP.leaf (by simp only; rw [if_pos hn])
        · refine ⟨122, DoesQ.eq (DoesQ.of Tryz.func94 (by kernel_rfl) ?_)⟩
          refine WP.iteF (decide_eq_false (by omega)) ?_
          refine WP.asrt (by omega) ?_
          refine WP.iteF (by rw [show bt s 0 = _ from hb]; simp [h34]) ?_
          refine WP.use1 hq ?_
          refine WP.iteT (by simp; omega) ?_
          exact WP.leaf (by simp only; rw [if_neg hn]; rfl)
    · rw [if_neg h34]
      refine ⟨122, DoesQ.eq (DoesQ.of Tryz.func94 (by kernel_rfl) ?_)⟩
      refine WP.iteF (decide_eq_false (by omega)) ?_
      refine WP.asrt (by omega) ?_
      refine WP.iteT (by rw [show bt s 0 = _ from hb]; simp; omega) ?_
      exact WP.leaf rfl
theorem text_ok {E : REnv} {T : Nat} {t : Tk} {r : List Tk} (hA : RAt E T t r) (lv : Int) : Does X 144 [.box base 0] [rp E T lv 0 0] (.ret (vS t.s) [rp E T lv 0 0]) := by
  have htx := hA.text
  refine DoesQ.eq (DoesQ.of Tryz.func144 (by kernel_rfl) ?_)
  refine WP.use1 (lk_ok hA lv) ?_
  refine WP.iteF (by simp) ?_
  refine WP.asrt (by kernel_rfl) ?_
  refine WP.asrt ⟨by simp, by simp; omega, by simp; omega⟩ ?_
  refine WP.asrt (by kernel_rfl) ?_
  refine WP.leaf ?_
  show Out.ret (vS (E.s.extract t.a (t.a + t.s.size))) _ = _
  rw [htx.2]
theorem prim_b : Rb X 130 [.box base 0] rE := by
  intro E T lv e w q hb
  have hq := hb.nz
  refine DoesQ.of Tryz.func130 (by kernel_rfl) ?_
  refine WP.use1 (lk_bad hb) ?_
  refine WP.use1 (fine_dead (by omega)) ?_
  refine WP.iteT rfl ?_
  exact WP.leaf ⟨.mk 1 0 .empty .empty ⟨0, 0, false, .empty⟩ 0 [], T, lv, _, _, hb.die, rfl⟩
theorem un_b : UnB X := by
  intro E T lv e w q hb
  refine DoesQ.of Tryz.func103 (by kernel_rfl) ?_
  refine WP.use1 (one_bad hb unSigns (by decide) (by simp [unSigns])) ?_
  refine WP.iteT rfl ?_
  refine Rb.use prim_b (hb.die) ?_
  intro x T lv e w hb
  exact WP.leaf ⟨x, T, lv, e, w, hb, rfl⟩
/-- a bracket, or a sign, that opens a level, ahead of the rest -/
theorem Rf.open {β γ : Type} {x : ByteArray} {d : Nat} (hd : d ≤ 64) {h : Unit → Gr β} {k : Out → Id.T γ} {E : REnv} {T : Nat} {t : Tk} {r : List Tk} {P : Rs β → γ → Prop} (hA : RAt E T t r) (hne : runG ((gOpen x d).bind h) (t :: r) ≠ .out)
    (hok : d < 64 → ∀ T t r, RAt E T t r → runG (h ()) (t :: r) ≠ .out → WP X (k (rU () (rp E (T : Nat) (d + 1 : Nat) 0 0))) (P (runG (h ()) (t :: r))))
    (hbad : ∀ T lv e w q res', RB E T lv e w q → IsBad E res' q → WP X (k (rU () (rp E T lv e w))) (P res')) :
    WP X (.call 96 [.box base 0, vS x] [rp E T d 0 0] k) (P (runG ((gOpen x d).bind h) (t :: r))) := by
  by_cases h64 : 64 ≤ d
  · have hr : ∃ c, runG (gOpen x d) (t :: r) = .err c (t :: r) := by
      have e : runG (gOpen x d) (t :: r) = runG (match isT t x with | true => (match decide (64 ≤ d) with | true => Gr.err 141 | false => .next (.ret ())) | false => .err 140) (t :: r) := rfl
      rw [e, decide_eq_true h64]
      cases isT t x <;> exact ⟨_, rfl⟩
    obtain ⟨c, hr⟩ := hr
    have hD := opens_f (X := X) x d hd E T t r hA (by rw [hr]; simp)
    rw [hr] at hD
    rw [runG_bind, hr]
    refine WP.use hD fun o ho => ?_
    obtain ⟨q, hq, y, T, lv, e, w, hb, rfl⟩ := ho
    exact hbad T lv e w _ _ hb (hq.conv _)
  · exact Rf.useP (opens_f x d hd) hA hne (fun _ T t r hA hne => hok (by omega) T t r hA hne) (fun _ => hbad)
theorem un_ne {t : Tk} (h : isAny t unSigns = true) : t.s ≠ .empty := fun e => by
  have h1 := isAny_mem h
  rw [e] at h1
  simp only [unSigns, List.mem_cons, List.not_mem_nil, or_false] at h1
  rcases h1 with h | h | h <;> exact absurd h (by decide)
theorem un_stepR {n : Nat} (hu : ∀ m, m < n → UnR X m) (hp : ∀ m, m < n → PrimR X m) : UnR X n := fun d hd => by
  cases n with
  | zero => exact Rf.out
  | succ n =>
    intro E T t r hA hne
    have e1 : runG (pUnary (n + 1) d) (t :: r) = runG (match isAny t unSigns with
      | true => (match decide (64 ≤ d) with | true => .err 141 | false => .next ((pUnary n (d + 1)).bind fun e => .ret (una t.a t.s e)))
      | false => pPrim n d) (t :: r) := by rw [pUnary]; rfl
    rw [e1] at hne ⊢
    refine DoesQ.of Tryz.func103 (by kernel_rfl) ?_
    refine WP.use1 (one_ok hA d unSigns (by decide)) ?_
    cases h : isAny t unSigns with
    | false =>
      rw [h] at hne
      rw [isAny_n h]
      refine WP.iteT rfl ?_
      have := hp n (Nat.lt_succ_self n) d hd E T t r hA hne
      refine WP.use this fun o ho => ?_
      revert ho
      cases hr : runG (pPrim n d) (t :: r) with
      | ok x l => rintro ⟨T, t, r, rfl, hA, rfl⟩; exact WP.leaf ⟨T, t, r, rfl, hA, rfl⟩
      | more => rintro ⟨q, hq, x, T, lv, e, w, hb, rfl⟩; exact WP.leaf ⟨q, hq, x, T, lv, e, w, hb, rfl⟩
      | err c l => rintro ⟨q, hq, x, T, lv, e, w, hb, rfl⟩; exact WP.leaf ⟨q, hq, x, T, lv, e, w, hb, rfl⟩
      | out => exact fun h => h.elim
    | true =>
      rw [h] at hne
      rw [isAny_s h]
      refine WP.iteF (decide_eq_false (un_ne h)) ?_
      refine WP.use1 (lk_ok hA d) ?_
      have hi : isT t t.s = true := by
        have := h
        unfold isAny at this
        unfold isT
        rw [Bool.and_eq_true] at this ⊢
        exact ⟨this.1, by simp⟩
      have e2 : runG (match decide (64 ≤ d) with | true => .err 141 | false => .next ((pUnary n (d + 1)).bind fun e => .ret (una t.a t.s e))) (t :: r) = runG ((gOpen t.s d).bind fun _ => (pUnary n (d + 1)).bind fun e => .ret (una t.a t.s e)) (t :: r) := by
        rw [runG_bind]
        have e : runG (gOpen t.s d) (t :: r) = runG (match isT t t.s with | true => (match decide (64 ≤ d) with | true => Gr.err 141 | false => .next (.ret ())) | false => .err 140) (t :: r) := rfl
        rw [e, hi]
        cases decide (64 ≤ d)
        · cases r <;> rfl
        · rfl
      dsimp only at hne ⊢
      rw [e2] at hne ⊢
      have hm := isAny_mem h
      simp only [unSigns, List.mem_cons, List.not_mem_nil, or_false] at hm
      have hz : IntKind.i64.wrap (((d + 1 : Nat) : Int) - 1) = (d : Int) := by rw [wrapI (by omega) (by omega)]; omega
      rcases hm with hs | hs | hs
      · have hop : unOp t.s = 15 := by rw [hs]; decide
        refine WP.iteF (by rw [hs]; decide) ?_
        refine WP.iteF (by rw [hs]; decide) ?_
        refine Rf.open (P := RPost E d rE) hd hA hne ?_ ?_
        · intro h64 T' t' r' hA' hne'
          refine Rf.use (hu n (Nat.lt_succ_self n) (d + 1) (by omega)) hA' hne' ?_ ?_
          · intro e T t2 r hA hne
            refine WP.leaf ⟨T, t2, r, rfl, hA, ?_⟩
            show Out.ret (.agg [cZ 4, cZ t.a, .str b0, .str b0, cZ 0, cZ 0, .bool false, .str b0, cZ 15, .sl 10 [eD e]]) [rp E T (IntKind.i64.wrap (((d + 1 : Nat) : Int) - 1)) 0 0] = Out.ret (.agg [cZ 4, cZ t.a, .str b0, .str b0, cZ 0, cZ 0, .bool false, .str b0, cZ (unOp t.s), .sl 10 (dsAll [e])]) _
            rw [hz, hop, dsAll1]
          · intro e T lv e' w q hb
            refine WP.leaf ⟨una t.a t.s e, T, IntKind.i64.wrap (lv - 1), e', w, hb, ?_⟩
            show Out.ret (.agg [cZ 4, cZ t.a, .str b0, .str b0, cZ 0, cZ 0, .bool false, .str b0, cZ 15, .sl 10 [eD e]]) _ = Out.ret (.agg [cZ 4, cZ t.a, .str b0, .str b0, cZ 0, cZ 0, .bool false, .str b0, cZ (unOp t.s), .sl 10 (dsAll [e])]) _
            rw [hop, dsAll1]
        · intro T lv e' w q res hb hr
          refine Rb.use un_b hb ?_
          intro e T lv e' w hb
          refine WP.leaf (BadO.post ⟨una t.a t.s e, T, IntKind.i64.wrap (lv - 1), e', w, hb, ?_⟩ hr)
          show Out.ret (.agg [cZ 4, cZ t.a, .str b0, .str b0, cZ 0, cZ 0, .bool false, .str b0, cZ 15, .sl 10 [eD e]]) _ = Out.ret (.agg [cZ 4, cZ t.a, .str b0, .str b0, cZ 0, cZ 0, .bool false, .str b0, cZ (unOp t.s), .sl 10 (dsAll [e])]) _
          rw [hop, dsAll1]
      · have hop : unOp t.s = 16 := by rw [hs]; decide
        refine WP.iteT (by rw [hs]; decide) ?_
        refine WP.iteF (by rw [hs]; decide) ?_
        refine Rf.open (P := RPost E d rE) hd hA hne ?_ ?_
        · intro h64 T' t' r' hA' hne'
          refine Rf.use (hu n (Nat.lt_succ_self n) (d + 1) (by omega)) hA' hne' ?_ ?_
          · intro e T t2 r hA hne
            refine WP.leaf ⟨T, t2, r, rfl, hA, ?_⟩
            show Out.ret (.agg [cZ 4, cZ t.a, .str b0, .str b0, cZ 0, cZ 0, .bool false, .str b0, cZ 16, .sl 10 [eD e]]) [rp E T (IntKind.i64.wrap (((d + 1 : Nat) : Int) - 1)) 0 0] = Out.ret (.agg [cZ 4, cZ t.a, .str b0, .str b0, cZ 0, cZ 0, .bool false, .str b0, cZ (unOp t.s), .sl 10 (dsAll [e])]) _
            rw [hz, hop, dsAll1]
          · intro e T lv e' w q hb
            refine WP.leaf ⟨una t.a t.s e, T, IntKind.i64.wrap (lv - 1), e', w, hb, ?_⟩
            show Out.ret (.agg [cZ 4, cZ t.a, .str b0, .str b0, cZ 0, cZ 0, .bool false, .str b0, cZ 16, .sl 10 [eD e]]) _ = Out.ret (.agg [cZ 4, cZ t.a, .str b0, .str b0, cZ 0, cZ 0, .bool false, .str b0, cZ (unOp t.s), .sl 10 (dsAll [e])]) _
            rw [hop, dsAll1]
        · intro T lv e' w q res hb hr
          refine Rb.use un_b hb ?_
          intro e T lv e' w hb
          refine WP.leaf (BadO.post ⟨una t.a t.s e, T, IntKind.i64.wrap (lv - 1), e', w, hb, ?_⟩ hr)
          show Out.ret (.agg [cZ 4, cZ t.a, .str b0, .str b0, cZ 0, cZ 0, .bool false, .str b0, cZ 16, .sl 10 [eD e]]) _ = Out.ret (.agg [cZ 4, cZ t.a, .str b0, .str b0, cZ 0, cZ 0, .bool false, .str b0, cZ (unOp t.s), .sl 10 (dsAll [e])]) _
          rw [hop, dsAll1]
      · have hop : unOp t.s = 17 := by rw [hs]; decide
        refine WP.iteF (by rw [hs]; decide) ?_
        refine WP.iteT (by rw [hs]; decide) ?_
        refine Rf.open (P := RPost E d rE) hd hA hne ?_ ?_
        · intro h64 T' t' r' hA' hne'
          refine Rf.use (hu n (Nat.lt_succ_self n) (d + 1) (by omega)) hA' hne' ?_ ?_
          · intro e T t2 r hA hne
            refine WP.leaf ⟨T, t2, r, rfl, hA, ?_⟩
            show Out.ret (.agg [cZ 4, cZ t.a, .str b0, .str b0, cZ 0, cZ 0, .bool false, .str b0, cZ 17, .sl 10 [eD e]]) [rp E T (IntKind.i64.wrap (((d + 1 : Nat) : Int) - 1)) 0 0] = Out.ret (.agg [cZ 4, cZ t.a, .str b0, .str b0, cZ 0, cZ 0, .bool false, .str b0, cZ (unOp t.s), .sl 10 (dsAll [e])]) _
            rw [hz, hop, dsAll1]
          · intro e T lv e' w q hb
            refine WP.leaf ⟨una t.a t.s e, T, IntKind.i64.wrap (lv - 1), e', w, hb, ?_⟩
            show Out.ret (.agg [cZ 4, cZ t.a, .str b0, .str b0, cZ 0, cZ 0, .bool false, .str b0, cZ 17, .sl 10 [eD e]]) _ = Out.ret (.agg [cZ 4, cZ t.a, .str b0, .str b0, cZ 0, cZ 0, .bool false, .str b0, cZ (unOp t.s), .sl 10 (dsAll [e])]) _
            rw [hop, dsAll1]
        · intro T lv e' w q res hb hr
          refine Rb.use un_b hb ?_
          intro e T lv e' w hb
          refine WP.leaf (BadO.post ⟨una t.a t.s e, T, IntKind.i64.wrap (lv - 1), e', w, hb, ?_⟩ hr)
          show Out.ret (.agg [cZ 4, cZ t.a, .str b0, .str b0, cZ 0, cZ 0, .bool false, .str b0, cZ 17, .sl 10 [eD e]]) _ = Out.ret (.agg [cZ 4, cZ t.a, .str b0, .str b0, cZ 0, cZ 0, .bool false, .str b0, cZ (unOp t.s), .sl 10 (dsAll [e])]) _
          rw [hop, dsAll1]
end Go.Proofs.YtacfbgfphkfobaaGreatDoor.Id
/-! ## PaRefE -/
namespace Go.Proofs.YtacfbgfphkfobaaGreatDoor.Id
open Go
set_option linter.unusedVariables false
set_option linter.unusedSimpArgs false
set_option maxRecDepth 100000
set_option maxHeartbeats 1000000
variable {X : Given}
/-- at these tokens; at none: the next look finds the fault -/
def RS (E : REnv) (T : Nat) : List Tk → Prop
  | [] => RPend E T
  | t :: r => RAt E T t r
theorem RAt.rs {E : REnv} {T : Nat} {t : Tk} {r : List Tk} (h : RAt E T t r) (hk : t.k ≠ 0) : RS E (T + 1) r := by
  have := h.next hk
  cases r <;> exact this
theorem run_next {β : Type} (g : Gr β) (t : Tk) (r : List Tk) : runG (.next g) (t :: r) = runL g r := by cases r <;> rfl
theorem comma_ok {E : REnv} {T : Nat} {t : Tk} {r : List Tk} (hA : RAt E T t r) (lv : Int) : Does X 97 [.box base 0] [rp E T lv 0 0] (.ret (vB (isT t (mkB [44]))) [rp E (if isT t (mkB [44]) = true then ((T + 1 : Nat) : Int) else T) lv 0 0]) := by
  refine DoesQ.eq (DoesQ.of Tryz.func97 (by kernel_rfl) ?_)
  refine WP.use1 (is_ok hA lv (mkB [44])) ?_
  cases h : isT t (mkB [44]) with
  | true =>
    refine WP.iteT rfl ?_
    refine WP.leaf ?_
    rw [if_pos rfl, ← tk_wrap hA]
  | false =>
    refine WP.iteF rfl ?_
    exact WP.leaf (by rw [if_neg (by simp)])
theorem comma_bad {E : REnv} {T lv e w : Int} {q : Flt} (hb : RB E T lv e w q) : Does X 97 [.box base 0] [rp E T lv e w] (.ret (vB false) [rp E T lv (q.c : Nat) (q.a : Nat)]) := by
  refine DoesQ.eq (DoesQ.of Tryz.func97 (by kernel_rfl) ?_)
  refine WP.use1 (is_bad hb (mkB [44])) ?_
  refine WP.iteF rfl ?_
  exact WP.leaf rfl
theorem fine_b {E : REnv} {T lv e w : Int} {q : Flt} (hb : RB E T lv e w q) : (e ≠ 0 ∧ Does X 37 [.box base 0] [rp E T lv e w] (.ret (vB false) [rp E T lv e w])) ∨ (e = 0 ∧ w = 0 ∧ Does X 37 [.box base 0] [rp E T lv e w] (.ret (vB true) [rp E T lv e w])) := by
  rcases hb with ⟨he, hw', hq⟩ | ⟨rfl, rfl, hq, m, rfl, hp⟩
  · exact .inl ⟨by omega, fine_dead (by omega)⟩
  · exact .inr ⟨rfl, rfl, fine_ok _ _⟩
abbrev rEs (x : List TExpr) (c : List V) : Out := .ret (.d (.sl 10 (dsAll x))) [c]
abbrev ExprR (X : Given) (n : Nat) : Prop := ∀ d : Nat, d ≤ 64 → Rf X 36 [.box base 0] d d (pLine n 0 d) rE
abbrev ArgsR (X : Given) (n : Nat) : Prop := ∀ d : Nat, d ≤ 64 → Rf X 145 [.box base 0] d d (pArgs n d) rEs
theorem expr_b : Rb X 36 [.box base 0] rE := by
  intro E T lv e w q hb
  refine DoesQ.of Tryz.func36 (by kernel_rfl) ?_
  refine Rb.use (line_bad un_b 0 (by omega)) hb ?_
  intro x T lv e w hb
  exact WP.leaf ⟨x, T, lv, e, w, hb, rfl⟩
theorem expr_of {n : Nat} (h : LineR X n) : ExprR X n := fun d hd => by
  intro E T t r hA hne
  refine DoesQ.of Tryz.func36 (by kernel_rfl) ?_
  refine WP.use (h 0 d (by omega) hd E T t r hA hne) fun o ho => ?_
  revert ho
  cases hr : runG (pLine n 0 d) (t :: r) with
  | ok x l => rintro ⟨T, t, r, rfl, hA, rfl⟩; exact WP.leaf ⟨T, t, r, rfl, hA, rfl⟩
  | more => rintro ⟨q, hq, x, T, lv, e, w, hb, rfl⟩; exact WP.leaf ⟨q, hq, x, T, lv, e, w, hb, rfl⟩
  | err c l => rintro ⟨q, hq, x, T, lv, e, w, hb, rfl⟩; exact WP.leaf ⟨q, hq, x, T, lv, e, w, hb, rfl⟩
  | out => exact fun h => h.elim
/-- a call where the tokens may have come to their end -/
theorem Rf.useS {α β γ : Type} {g : FuncId} {args : List V} {lv lv1 : Int} {p : Gr α} {ro : α → List V → Out} {h : α → Gr β} {k : Out → Id.T γ} {E : REnv} {T : Nat} {ts : List Tk} {P : Rs β → γ → Prop}
    (hD : Rf X g args lv lv1 p ro) (hB : Rb X g args ro) (hA : RS E T ts) (hne : runL (p.bind h) ts ≠ .out)
    (hok : ∀ x T t r, RAt E T t r → runG (h x) (t :: r) ≠ .out → WP X (k (ro x (rp E (T : Nat) lv1 0 0))) (P (runG (h x) (t :: r))))
    (hbad : ∀ x T lv e w q res', RB E T lv e w q → IsBad E res' q → WP X (k (ro x (rp E T lv e w))) (P res')) :
    WP X (.call g args [rp E T lv 0 0] k) (P (runL (p.bind h) ts)) := by
  cases ts with
  | nil => exact Rb.use hB (RPend.bad hA lv) fun x T lv e w hb => hbad x T lv e w _ _ hb (RPend.isBad hA)
  | cons t r => exact Rf.useP hD hA hne hok hbad
/-- behind an argument, when no comma comes -/
theorem argl_close {n d : Nat} {l : List TExpr} {t : Tk} {r : List Tk} (h : isT t (mkB [44]) = false) (hl : 0 < l.length) : runG (pArgl (n + 1) d l) (t :: r) = runG ((gMust (mkB [41])).bind fun _ => .ret l) (t :: r) := by
  have e1 : runG (pArgl (n + 1) d l) (t :: r) = runG (match isT t (mkB [41]) with
      | true => .next (.ret l)
      | false => (gSep l.length).bind fun _ => (pLine n 0 d).bind fun e => pArgl n d (l ++ [e])) (t :: r) := rfl
  have e2 : runG ((gMust (mkB [41])).bind fun _ => Gr.ret l) (t :: r) = runG ((match isT t (mkB [41]) with | true => .next (.ret t.a) | false => .err 140 : Gr Nat).bind fun _ => .ret l) (t :: r) := rfl
  rw [e1, e2]
  cases isT t (mkB [41]) with
  | true => rfl
  | false =>
    simp only [gSep_pos hl]
    show runG ((match isT t (mkB [44]) with | true => .next (.ret t.a) | false => .err 140 : Gr Nat).bind _) (t :: r) = _
    rw [h]; rfl
theorem argl_more {n d : Nat} {l : List TExpr} {t : Tk} {r : List Tk} (h : isT t (mkB [44]) = true) (hl : 0 < l.length) : runG (pArgl (n + 1) d l) (t :: r) = runL ((pLine n 0 d).bind fun e => pArgl n d (l ++ [e])) r := by
  have h1 : isT t (mkB [41]) = false := by
    unfold isT at h ⊢
    simp at h
    rw [h.2]; first | (simp; done) | (simp; decide)
  have e1 : runG (pArgl (n + 1) d l) (t :: r) = runG (match isT t (mkB [41]) with
      | true => .next (.ret l)
      | false => (gSep l.length).bind fun _ => (pLine n 0 d).bind fun e => pArgl n d (l ++ [e])) (t :: r) := rfl
  rw [e1, h1]
  simp only [gSep_pos hl]
  show runG ((match isT t (mkB [44]) with | true => .next (.ret t.a) | false => .err 140 : Gr Nat).bind _) (t :: r) = _
  rw [h, ← run_next]; rfl
abbrev arSt (E : REnv) (c : List V) (l : List TExpr) (b : Bool) : St := ⟨[(0, .box base 0), (3, .own (25, here) 10 (dsAll l)), (4, vB b)], [(base, c)]⟩
theorem args_loopR (d : Nat) (hd : d ≤ 64) (E : REnv) (K : Ex → St → Id.T Out) (P : Rs (List TExpr) → Out → Prop)
    (hE : ∀ T t r l, RAt E T t r → l.length ≤ 1000000000 → WP X (K (.exit 0) ⟨[(0, .box base 0), (3, .own (25, here) 10 (dsAll l))], [(base, rp E (T : Nat) d 0 0)]⟩) (P (runG ((gMust (mkB [41])).bind fun _ => .ret l) (t :: r))))
    (hEB : ∀ l T lv e w q res, RB E T lv e w q → IsBad E res q → WP X (K (.exit 0) ⟨[(0, .box base 0), (3, .own (25, here) 10 (dsAll l))], [(base, rp E T lv e w)]⟩) (P res)) :
    ∀ n, (∀ m, m ≤ n → ExprR X m) → ∀ l T ts, RS E T ts → n + l.length ≤ 1000000000 → runL ((pLine n 0 d).bind fun e => pArgl n d (l ++ [e])) ts ≠ .out → ∀ σ : St, getT σ.t 0 = .box base 0 → WkV σ (.own (25, here) 10 (dsAll l)) (getT σ.t 3) → WkV σ (vB true) (getT σ.t 4) → getB σ.b base = some (rp E (T : Nat) d 0 0) →
      WP X (.loop (lp Tryz.f145 0) σ K) (P (runL ((pLine n 0 d).bind fun e => pArgl n d (l ++ [e])) ts)) := by
  intro n
  induction n using Nat.strongRecOn with
  | ind n ih =>
    intro hx l T ts hS hl hne σ g0 g3 g4 gb
    refine WP.round (arSt E (rp E (T : Nat) d 0 0) l true) ⟨⟨.inl g0.symm, g3, g4, trivial⟩, ⟨WkB.box gb, trivial⟩⟩ ?_
    refine WP.iteT rfl ?_
    refine WP.use1 (fine_ok _ _) ?_
    refine WP.iteT rfl ?_
    refine Rf.useS (P := fun res => Round X _ K (P res)) (hx n (Nat.le_refl n) d hd) expr_b hS hne ?_ ?_
    · intro e T t r hA hne
      refine WP.asrt (show ((dsAll l).length + 1) * 120 ≤ 140737488355328 by rw [dsAll_len]; omega) ?_
      have hw : V.own (25, here) 10 (dsAll l ++ [eD e]) = .own (25, here) 10 (dsAll (l ++ [e])) := by rw [dsAll_app, dsAll1]
      have hlen : 0 < (l ++ [e]).length := by simp
      cases n with
      | zero => exact absurd rfl hne
      | succ n =>
        refine WP.use1 (comma_ok hA d) ?_
        cases hc : isT t (mkB [44]) with
        | true =>
          rw [argl_more hc hlen] at hne ⊢
          refine WP.leaf ?_
          exact ih n (Nat.lt_succ_self n) (fun m hm => hx m (by omega)) (l ++ [e]) (T + 1) r (hA.rs (isT_k hc)) (by rw [List.length_append]; simp; omega) hne _ rfl (.inl hw.symm) (.inl rfl) rfl
        | false =>
          rw [argl_close hc hlen]
          refine WP.leaf ?_
          refine WP.round (arSt E (rp E (T : Nat) d 0 0) (l ++ [e]) false) ⟨⟨.inl rfl, .inl hw.symm, .inl rfl, trivial⟩, ⟨WkB.box rfl, trivial⟩⟩ ?_
          refine WP.iteF rfl ?_
          exact WP.leaf ⟨⟨[(0, .box base 0), (3, .own (25, here) 10 (dsAll (l ++ [e])))], [(base, rp E (T : Nat) d 0 0)]⟩, ⟨⟨.inl rfl, .inl rfl, trivial⟩, ⟨WkB.box rfl, trivial⟩⟩, hE T t r (l ++ [e]) hA (by rw [List.length_append]; simp; omega)⟩
    · intro e T lv e' w q res hb hr
      refine WP.asrt (show ((dsAll l).length + 1) * 120 ≤ 140737488355328 by rw [dsAll_len]; omega) ?_
      have hw : V.own (25, here) 10 (dsAll l ++ [eD e]) = .own (25, here) 10 (dsAll (l ++ [e])) := by rw [dsAll_app, dsAll1]
      refine WP.use1 (comma_bad hb) ?_
      refine WP.leaf ?_
      refine WP.round (arSt E (rp E T lv (q.c : Nat) (q.a : Nat)) (l ++ [e]) false) ⟨⟨.inl rfl, .inl hw.symm, .inl rfl, trivial⟩, ⟨WkB.box rfl, trivial⟩⟩ ?_
      refine WP.iteF rfl ?_
      exact WP.leaf ⟨⟨[(0, .box base 0), (3, .own (25, here) 10 (dsAll (l ++ [e])))], [(base, rp E T lv (q.c : Nat) (q.a : Nat))]⟩, ⟨⟨.inl rfl, .inl rfl, trivial⟩, ⟨WkB.box rfl, trivial⟩⟩, hEB _ _ _ _ _ _ _ (hb.die) hr⟩
theorem args_b : Rb X 145 [.box base 0] rEs := by
  intro E T lv e w q hb
  refine DoesQ.of Tryz.func145 (by kernel_rfl) ?_
  refine Rb.use (opens_b (mkB [40])) hb ?_
  intro _ T lv e w hb
  have hend : ∀ (T lv e w : Int), RB E T lv e w q → ∀ x : Id.T Out, True := fun _ _ _ _ _ _ => trivial
  rcases fine_b hb with ⟨hne, hf⟩ | ⟨rfl, rfl, hf⟩
  · refine WP.use1 hf ?_
    refine WP.iteF rfl ?_
    refine WP.round ⟨[(0, .box base 0), (3, .own (25, here) 10 (dsAll [])), (4, .lit false)], [(base, rp E T lv e w)]⟩ ⟨⟨.inl rfl, (.inr (.inr ⟨(25, here), 10, 10, rfl, rfl, rfl, rfl⟩)), .inl rfl, trivial⟩, ⟨WkB.box rfl, trivial⟩⟩ ?_
    refine WP.leaf ⟨⟨[(0, .box base 0), (3, .own (25, here) 10 (dsAll []))], [(base, rp E T lv e w)]⟩, ⟨⟨.inl rfl, .inl rfl, trivial⟩, ⟨WkB.box rfl, trivial⟩⟩, ?_⟩
    refine Rb.use (closes_b (mkB [41])) hb ?_
    intro _ T lv e w hb
    exact WP.leaf ⟨[], T, lv, e, w, hb, rfl⟩
  · refine WP.use1 hf ?_
    refine WP.iteT rfl ?_
    refine WP.use1 (is_bad hb (mkB [41])) ?_
    have hb2 : RB E T lv (q.c : Nat) (q.a : Nat) q := hb.die
    refine WP.round (arSt E (rp E T lv (q.c : Nat) (q.a : Nat)) [] true) ⟨⟨.inl rfl, (.inr (.inr ⟨(25, here), 10, 10, rfl, rfl, rfl, rfl⟩)), .inl rfl, trivial⟩, ⟨WkB.box rfl, trivial⟩⟩ ?_
    refine WP.iteT rfl ?_
    refine WP.use1 (fine_dead (by have := hb.nz; omega)) ?_
    refine WP.iteF rfl ?_
    refine WP.leaf ⟨⟨[(0, .box base 0), (3, .own (25, here) 10 (dsAll []))], [(base, rp E T lv (q.c : Nat) (q.a : Nat))]⟩, ⟨⟨.inl rfl, .inl rfl, trivial⟩, ⟨WkB.box rfl, trivial⟩⟩, ?_⟩
    refine Rb.use (closes_b (mkB [41])) hb2 ?_
    intro _ T lv e w hb
    exact WP.leaf ⟨[], T, lv, e, w, hb, rfl⟩
theorem args_stepR {n : Nat} (hn : n ≤ 1000000000) (hx : ∀ m, m < n → ExprR X m) : ArgsR X n := fun d hd => by
  cases n with
  | zero => exact Rf.out
  | succ n =>
    intro E T t r hA hne
    refine DoesQ.of Tryz.func145 (by kernel_rfl) ?_
    have e1 : pArgs (n + 1) d = (gOpen (mkB [40]) d).bind fun _ => pArgl n (d + 1) [] := rfl
    rw [e1] at hne ⊢
    refine Rf.open (P := RPost E d rEs) hd hA hne ?_ ?_
    · intro h64 T t r hA hne
      refine WP.use1 (fine_ok _ _) ?_
      refine WP.iteT rfl ?_
      refine WP.use1 (is_ok hA _ (mkB [41])) ?_
      cases n with
      | zero => exact absurd rfl hne
      | succ n =>
        have e2 : runG (pArgl (n + 1) (d + 1) []) (t :: r) = runG (match isT t (mkB [41]) with
          | true => .next (.ret [])
          | false => (gSep 0).bind fun _ => (pLine n 0 (d + 1)).bind fun e => pArgl n (d + 1) ([] ++ [e])) (t :: r) := rfl
        rw [e2] at hne ⊢
        have hE : ∀ (l : List TExpr) (T : Nat) (t : Tk) (r : List Tk), RAt E T t r → runG ((gMust (mkB [41])).bind fun _ => Gr.ret l) (t :: r) ≠ .out := fun l T t r _ => by
          show runG ((match isT t (mkB [41]) with | true => .next (.ret t.a) | false => .err 140 : Gr Nat).bind fun _ => Gr.ret l) (t :: r) ≠ .out
          cases isT t (mkB [41])
          · intro h; cases h
          · cases r <;> (intro h; cases h)
        cases h1 : isT t (mkB [41]) with
        | true =>
          have e3 : runG (.next (.ret ([] : List TExpr))) (t :: r) = runG ((gMust (mkB [41])).bind fun _ => .ret []) (t :: r) := by
            show _ = runG ((match isT t (mkB [41]) with | true => .next (.ret t.a) | false => .err 140 : Gr Nat).bind fun _ => .ret []) (t :: r)
            rw [h1]; rfl
          dsimp only
          rw [e3]
          refine WP.round (arSt E (rp E (T : Nat) (d + 1 : Nat) 0 0) [] false) ⟨⟨.inl rfl, (.inr (.inr ⟨(25, here), 10, 10, rfl, rfl, rfl, rfl⟩)), .inl rfl, trivial⟩, ⟨WkB.box rfl, trivial⟩⟩ ?_
          refine WP.iteF rfl ?_
          refine WP.leaf ⟨⟨[(0, .box base 0), (3, .own (25, here) 10 (dsAll []))], [(base, rp E (T : Nat) (d + 1 : Nat) 0 0)]⟩, ⟨⟨.inl rfl, .inl rfl, trivial⟩, ⟨WkB.box rfl, trivial⟩⟩, ?_⟩
          refine Rf.use (closes_f (mkB [41]) d hd) hA (hE _ _ _ _ hA) ?_ ?_
          · intro _ T t r hA _; exact WP.leaf ⟨T, t, r, rfl, hA, rfl⟩
          · intro _ T lv e w q hb; exact WP.leaf ⟨[], T, lv, e, w, hb, rfl⟩
        | false =>
          rw [h1] at hne
          dsimp only at hne ⊢
          rw [gSep_zero (by omega)] at hne ⊢
          refine args_loopR (d + 1) (by omega) E _ (RPost E d rEs) ?_ ?_ n (fun m hm => hx m (by omega)) [] T (t :: r) hA (by simp; omega) hne _ rfl (.inr (.inr ⟨(25, here), 10, 10, rfl, rfl, rfl, rfl⟩)) (.inl rfl) rfl
          · intro T t r l hA hl
            refine Rf.use (closes_f (mkB [41]) d hd) hA (hE _ _ _ _ hA) ?_ ?_
            · intro _ T t r hA _; exact WP.leaf ⟨T, t, r, rfl, hA, rfl⟩
            · intro _ T lv e w q hb; exact WP.leaf ⟨l, T, lv, e, w, hb, rfl⟩
          · intro l T lv e w q res hb hr
            refine Rb.use (closes_b (mkB [41])) hb ?_
            intro _ T lv e w hb
            exact WP.leaf (BadO.post ⟨l, T, lv, e, w, hb, rfl⟩ hr)
    · intro T lv e w q res hb hr
      rcases fine_b hb with ⟨hne, hf⟩ | ⟨rfl, rfl, hf⟩
      · refine WP.use1 hf ?_
        refine WP.iteF rfl ?_
        refine WP.round ⟨[(0, .box base 0), (3, .own (25, here) 10 (dsAll [])), (4, .lit false)], [(base, rp E T lv e w)]⟩ ⟨⟨.inl rfl, (.inr (.inr ⟨(25, here), 10, 10, rfl, rfl, rfl, rfl⟩)), .inl rfl, trivial⟩, ⟨WkB.box rfl, trivial⟩⟩ ?_
        refine WP.leaf ⟨⟨[(0, .box base 0), (3, .own (25, here) 10 (dsAll []))], [(base, rp E T lv e w)]⟩, ⟨⟨.inl rfl, .inl rfl, trivial⟩, ⟨WkB.box rfl, trivial⟩⟩, ?_⟩
        refine Rb.use (closes_b (mkB [41])) hb ?_
        intro _ T lv e w hb
        exact WP.leaf (BadO.post ⟨[], T, lv, e, w, hb, rfl⟩ hr)
      · refine WP.use1 hf ?_
        refine WP.iteT rfl ?_
        refine WP.use1 (is_bad hb (mkB [41])) ?_
        have hb2 : RB E T lv (q.c : Nat) (q.a : Nat) q := hb.die
        refine WP.round (arSt E (rp E T lv (q.c : Nat) (q.a : Nat)) [] true) ⟨⟨.inl rfl, (.inr (.inr ⟨(25, here), 10, 10, rfl, rfl, rfl, rfl⟩)), .inl rfl, trivial⟩, ⟨WkB.box rfl, trivial⟩⟩ ?_
        refine WP.iteT rfl ?_
        refine WP.use1 (fine_dead (by have := hb.nz; omega)) ?_
        refine WP.iteF rfl ?_
        refine WP.leaf ⟨⟨[(0, .box base 0), (3, .own (25, here) 10 (dsAll []))], [(base, rp E T lv (q.c : Nat) (q.a : Nat))]⟩, ⟨⟨.inl rfl, .inl rfl, trivial⟩, ⟨WkB.box rfl, trivial⟩⟩, ?_⟩
        refine Rb.use (closes_b (mkB [41])) hb2 ?_
        intro _ T lv e w hb
        exact WP.leaf (BadO.post ⟨[], T, lv, e, w, hb, rfl⟩ hr)
end Go.Proofs.YtacfbgfphkfobaaGreatDoor.Id
/-! ## PaRefF -/
namespace Go.Proofs.YtacfbgfphkfobaaGreatDoor.Id
open Go
set_option linter.unusedVariables false
set_option linter.unusedSimpArgs false
set_option maxRecDepth 100000
set_option maxHeartbeats 2000000
variable {X : Given}
theorem RAt.sz {E : REnv} {T : Nat} {t : Tk} {r : List Tk} (h : RAt E T t r) : t.s.size ≤ 65536 := by have := h.text.1; have := h.hc.1; omega
theorem rnum (s : ByteArray) (hs : s.size ≤ 1048576) : ∃ z, Does X 74 [vS s] [] (.ret (.tuple [vI (numZ s), vI z]) []) := ⟨_, rnumber s hs⟩
theorem prim_stepR {n : Nat} (hx : ∀ m, m < n → ExprR X m) (ha : ∀ m, m < n → ArgsR X m) : PrimR X n := fun d hd => by
  cases n with
  | zero => exact Rf.out
  | succ n =>
    intro E T t r hA hne
    have hsz := hA.sz
    have e1 : runG (pPrim (n + 1) d) (t :: r) = runG (match decide (t.k = 2) with
      | true => .next (.ret (.mk 1 t.a b0 b0 ⟨1, numZ t.s, false, b0⟩ 0 []))
      | false => match decide (t.k = 3) with
        | true => .next (.ret (.mk 1 t.a b0 b0 ⟨3, 0, false, txtZ t.s⟩ 0 []))
        | false => match isAny t [mkB [116, 114, 117, 101], mkB [102, 97, 108, 115, 101]] with
          | true => .next (.ret (.mk 1 t.a b0 b0 ⟨2, 0, decide (t.s = mkB [116, 114, 117, 101]), b0⟩ 0 []))
          | false => match isT t (mkB [40]) with
            | true => (gOpen (mkB [40]) d).bind fun _ => (pLine n 0 (d + 1)).bind fun e => (gMust (mkB [41])).bind fun _ => .ret e
            | false => (gOf 1).bind fun w => (gIs (mkB [46])).bind fun
              | true => .next ((gOf 1).bind fun w2 => pName n d t.a w.1 w2.1)
              | false => pName n d t.a b0 w.1) (t :: r) := rfl
    rw [e1] at hne ⊢
    refine DoesQ.of Tryz.func130 (by kernel_rfl) ?_
    refine WP.use1 (lk_ok hA d) ?_
    refine WP.use1 (fine_ok _ _) ?_
    refine WP.iteF rfl ?_
    by_cases h2 : t.k = 2
    · obtain ⟨z, hn⟩ := rnum (X := X) t.s (by omega)
      simp only [decide_eq_true h2] at hne ⊢
      refine WP.iteT (by simp [h2]) ?_
      refine WP.use1 (text_ok hA d) ?_
      refine WP.use1 hn ?_
      refine WP.leaf (RPost.next hA (by omega) ?_)
      rw [← tk_wrap hA]; rfl
    simp only [decide_eq_false h2] at hne ⊢
    refine WP.iteF (by simp; omega) ?_
    by_cases h3 : t.k = 3
    · obtain ⟨z, hn⟩ := rtext (X := X) t.s (by omega)
      simp only [decide_eq_true h3] at hne ⊢
      refine WP.iteT (by simp [h3]) ?_
      refine WP.use1 (text_ok hA d) ?_
      refine WP.use1 hn ?_
      refine WP.leaf (RPost.next hA (by omega) ?_)
      rw [← tk_wrap hA]; rfl
    simp only [decide_eq_false h3] at hne ⊢
    refine WP.iteF (by simp; omega) ?_
    have ht : isAny t [mkB [116, 114, 117, 101], mkB [102, 97, 108, 115, 101]] = (isT t (mkB [116, 114, 117, 101]) || isT t (mkB [102, 97, 108, 115, 101])) := by
      rw [← any_isT]; simp
    refine WP.use1 (is_ok hA d (mkB [116, 114, 117, 101])) ?_
    rw [ht] at hne ⊢
    cases h4 : isT t (mkB [116, 114, 117, 101]) with
    | true =>
      have hs : t.s = mkB [116, 114, 117, 101] := by unfold isT at h4; simp at h4; exact h4.2
      refine WP.iteT rfl ?_
      have h4' := is_ok (X := X) hA d (mkB [116, 114, 117, 101])
      rw [h4] at h4'
      refine WP.use1 h4' ?_
      refine WP.leaf (RPost.next hA (isT_k h4) ?_)
      rw [← tk_wrap hA, decide_eq_true hs]; rfl
    | false =>
      rw [h4] at hne
      refine WP.iteF rfl ?_
      refine WP.use1 (is_ok hA d (mkB [102, 97, 108, 115, 101])) ?_
      cases h5 : isT t (mkB [102, 97, 108, 115, 101]) with
      | true =>
        have hs : t.s = mkB [102, 97, 108, 115, 101] := by unfold isT at h5; simp at h5; exact h5.2
        refine WP.iteT rfl ?_
        have h4' := is_ok (X := X) hA d (mkB [116, 114, 117, 101])
        rw [h4] at h4'
        refine WP.use1 h4' ?_
        refine WP.leaf (RPost.next hA (isT_k h5) ?_)
        rw [← tk_wrap hA, decide_eq_false (by rw [hs]; decide)]; rfl
      | false =>
        rw [h5] at hne
        refine WP.iteF rfl ?_
        refine WP.use1 (is_ok hA d (mkB [40])) ?_
        have hne' : runG (match isT t (mkB [40]) with
            | true => (gOpen (mkB [40]) d).bind fun _ => (pLine n 0 (d + 1)).bind fun e => (gMust (mkB [41])).bind fun _ => .ret e
            | false => (gOf 1).bind fun w => (gIs (mkB [46])).bind fun
              | true => .next ((gOf 1).bind fun w2 => pName n d t.a w.1 w2.1)
              | false => pName n d t.a b0 w.1) (t :: r) ≠ .out := hne
        show WP X _ (RPost E d rE (runG (match isT t (mkB [40]) with
            | true => (gOpen (mkB [40]) d).bind fun _ => (pLine n 0 (d + 1)).bind fun e => (gMust (mkB [41])).bind fun _ => .ret e
            | false => (gOf 1).bind fun w => (gIs (mkB [46])).bind fun
              | true => .next ((gOf 1).bind fun w2 => pName n d t.a w.1 w2.1)
              | false => pName n d t.a b0 w.1) (t :: r)))
        clear hne
        cases h6 : isT t (mkB [40]) with
        | true =>
          rw [h6] at hne'
          refine WP.iteT rfl ?_
          refine Rf.open (P := RPost E d rE) hd hA hne' ?_ ?_
          · intro h64 T t r hA hne
            refine Rf.use (hx n (Nat.lt_succ_self n) (d + 1) (by omega)) hA hne ?_ ?_
            · intro e T t r hA hne
              refine Rf.use (closes_f (mkB [41]) d hd) hA hne ?_ ?_
              · intro _ T t r hA hne
                exact WP.leaf ⟨T, t, r, rfl, hA, rfl⟩
              · intro _ T lv e' w q hb
                exact WP.leaf ⟨e, T, lv, e', w, hb, rfl⟩
            · intro e T lv e' w q hb
              refine Rb.use (closes_b (mkB [41])) hb ?_
              intro _ T lv e' w hb
              exact WP.leaf ⟨e, T, lv, e', w, hb, rfl⟩
          · intro T lv e' w q res hb hr
            refine Rb.use expr_b hb ?_
            intro e T lv e' w hb
            refine Rb.use (closes_b (mkB [41])) hb ?_
            intro _ T lv e' w hb
            exact WP.leaf (BadO.post ⟨e, T, lv, e', w, hb, rfl⟩ hr)
        | false =>
          rw [h6] at hne'
          refine WP.iteF rfl ?_
          by_cases h1 : t.k = 1
          · refine WP.iteT (by simp [h1]) ?_
            dsimp only at hne' ⊢
            refine Rf.use (kind_f 1 (by omega) d) hA hne' ?_ ?_
            · intro w T t1 r hA hne
              refine WP.use1 (is_ok hA d (mkB [46])) ?_
              have e2 : runG ((fun w : ByteArray × Nat => (gIs (mkB [46])).bind fun
                | true => .next ((gOf 1).bind fun w2 => pName n d t.a w.1 w2.1)
                | false => pName n d t.a b0 w.1) w) (t1 :: r) = runG (match isT t1 (mkB [46]) with
                | true => .next ((gOf 1).bind fun w2 => pName n d t.a w.1 w2.1)
                | false => pName n d t.a b0 w.1) (t1 :: r) := rfl
              rw [e2] at hne ⊢
              cases h6 : isT t1 (mkB [46]) with
              | true =>
                rw [h6] at hne
                refine WP.iteT rfl ?_
                refine Rf.useN (P := RPost E d rE) (kind_f 1 (by omega) d) (kind_b 1) hA (isT_k h6) hne ?_ ?_
                · intro w2 T t3 r hA hne
                  cases n with
                  | zero => exact absurd rfl hne
                  | succ n =>
                    refine WP.use1 (is_ok hA d (mkB [40])) ?_
                    have e3 : runG (pName (n + 1) d t.a w.1 w2.1) (t3 :: r) = runG (match isT t3 (mkB [40]) with
                      | true => (pArgs n d).bind fun l => .ret (.mk 3 t.a w.1 w2.1 val0 0 l)
                      | false => .ret (.mk 2 t.a w.1 w2.1 val0 0 [])) (t3 :: r) := rfl
                    skip
                    rw [e3] at hne ⊢
                    cases h7 : isT t3 (mkB [40]) with
                    | true =>
                      rw [h7] at hne
                      refine WP.iteT rfl ?_
                      refine Rf.use (ha n (by omega) d hd) hA hne ?_ ?_
                      · intro l T t r hA hne
                        exact WP.leaf ⟨T, t, r, rfl, hA, rfl⟩
                      · intro l T lv e' w' q hb
                        exact WP.leaf ⟨.mk 3 t.a w.1 w2.1 val0 0 l, T, lv, e', w', hb, rfl⟩
                    | false =>
                      refine WP.iteF rfl ?_
                      exact WP.leaf ⟨T, t3, r, rfl, hA, rfl⟩
                · intro w2 T lv e' w' q res hb hr
                  refine WP.use1 (is_bad hb (mkB [40])) ?_
                  refine WP.iteF rfl ?_
                  exact WP.leaf (BadO.post ⟨.mk 2 t.a w.1 w2.1 val0 0 [], T, lv, _, _, hb.die, rfl⟩ hr)
              | false =>
                rw [h6] at hne
                refine WP.iteF rfl ?_
                have e4 : runG (match false with
                  | true => .next ((gOf 1).bind fun w2 => pName n d t.a w.1 w2.1)
                  | false => pName n d t.a b0 w.1) (t1 :: r) = runG (pName n d t.a b0 w.1) (t1 :: r) := rfl
                rw [e4] at hne ⊢
                cases n with
                | zero => exact absurd rfl hne
                | succ n =>
                  refine WP.use1 (is_ok hA d (mkB [40])) ?_
                  have e3 : runG (pName (n + 1) d t.a b0 w.1) (t1 :: r) = runG (match isT t1 (mkB [40]) with
                    | true => (pArgs n d).bind fun l => .ret (.mk 3 t.a b0 w.1 val0 0 l)
                    | false => .ret (.mk 2 t.a b0 w.1 val0 0 [])) (t1 :: r) := rfl
                  skip
                  rw [e3] at hne ⊢
                  cases h7 : isT t1 (mkB [40]) with
                  | true =>
                    rw [h7] at hne
                    refine WP.iteT rfl ?_
                    refine Rf.use (ha n (by omega) d hd) hA hne ?_ ?_
                    · intro l T t r hA hne
                      exact WP.leaf ⟨T, t, r, rfl, hA, rfl⟩
                    · intro l T lv e' w' q hb
                      exact WP.leaf ⟨.mk 3 t.a b0 w.1 val0 0 l, T, lv, e', w', hb, rfl⟩
                  | false =>
                    refine WP.iteF rfl ?_
                    exact WP.leaf ⟨T, t1, r, rfl, hA, rfl⟩
            · intro w T lv e' w' q hb
              refine WP.use1 (is_bad hb (mkB [46])) ?_
              refine WP.iteF rfl ?_
              have hb2 : RB E T lv (q.c : Nat) (q.a : Nat) q := hb.die
              refine WP.use1 (is_bad hb2 (mkB [40])) ?_
              refine WP.iteF rfl ?_
              exact WP.leaf ⟨.mk 2 t.a b0 w.1 val0 0 [], T, lv, _, _, hb2, rfl⟩
          · refine WP.iteF (by simp; omega) ?_
            refine WP.use1 (wrong_ok hA d) ?_
            have e2 : runG ((gOf 1).bind fun w => (gIs (mkB [46])).bind fun
              | true => .next ((gOf 1).bind fun w2 => pName n d t.a w.1 w2.1)
              | false => pName n d t.a b0 w.1) (t :: r) = .err 140 (t :: r) := by
              show runG ((match decide (t.k = 1) with | true => .next (.ret (t.s, t.a)) | false => .err 140 : Gr (ByteArray × Nat)).bind _) (t :: r) = _
              rw [decide_eq_false h1]; rfl
            dsimp only
            rw [e2]
            exact WP.leaf (RPost.mkErr (x := .mk 1 t.a .empty .empty ⟨0, 0, false, .empty⟩ 0 []) hA (by decide) rfl)
/-- all of the grammar of expressions, by the reference -/
theorem exprsR : ∀ (n : Nat), n ≤ 1000000000 → LineR X n ∧ UnR X n ∧ PrimR X n ∧ ArgsR X n := by
  intro n
  induction n using Nat.strongRecOn with
  | ind n ih =>
    intro hn
    have ih' := fun m (hm : m < n) => ih m hm (by omega)
    exact ⟨line_stepR (line_bad un_b) (fun m hm => (ih' m hm).1) (fun m hm => (ih' m hm).2.1), un_stepR (fun m hm => (ih' m hm).2.1) (fun m hm => (ih' m hm).2.2.1), prim_stepR (fun m hm => expr_of (ih' m hm).1) (fun m hm => (ih' m hm).2.2.2), args_stepR hn (fun m hm => expr_of (ih' m hm).1)⟩
theorem expr_f {n : Nat} (hn : n ≤ 1000000000) : ExprR X n := expr_of (exprsR n hn).1
theorem args_f {n : Nat} (hn : n ≤ 1000000000) : ArgsR X n := (exprsR n hn).2.2.2
end Go.Proofs.YtacfbgfphkfobaaGreatDoor.Id
/-! ## PaRefG -/
namespace Go.Proofs.YtacfbgfphkfobaaGreatDoor.Id
open Go
set_option linter.unusedVariables false
set_option linter.unusedSimpArgs false
set_option maxRecDepth 100000
set_option maxHeartbeats 2000000
variable {X : Given}
abbrev rSs (l : List TStmt) (c : List V) : Out := .ret (.d (.sl 16 (ssAll l))) [c]
abbrev rS (s : TStmt) (c : List V) : Out := .ret (.agg (sD s)) [c]
abbrev BlockR (X : Given) (n : Nat) : Prop := ∀ d : Nat, d ≤ 64 → Rf X 100 [.box base 0] d d (pBlock n d) rSs
abbrev StmtR (X : Given) (n : Nat) : Prop := ∀ d : Nat, d ≤ 64 → Rf X 127 [.box base 0] d d (pStmt n d) rS
abbrev BranchR (X : Given) (n : Nat) : Prop := ∀ d : Nat, d ≤ 64 → Rf X 141 [.box base 0] d d (pBranch n d) rS
/-- the end of a block: with a fault -/
theorem block_end {γ : Type} {E : REnv} {T lv e w : Int} {q : Flt} (hb : RB E T lv e w q) (l : List (List D)) (K : Ex → St → Id.T γ) (Q : γ → Prop) (hQ : ∀ T lv e w, RB E T lv e w q → WP X (K (.exit 0) ⟨[(0, .box base 0), (3, .own (21, here) 16 l)], [(base, rp E T lv e w)]⟩) Q) (σ : St) (g0 : getT σ.t 0 = .box base 0) (g3 : WkV σ (.own (21, here) 16 l) (getT σ.t 3)) (gb : getB σ.b base = some (rp E T lv e w)) :
    WP X (.loop (lp Tryz.f100 0) σ K) Q := by
  refine WP.round ⟨[(0, .box base 0), (3, .own (21, here) 16 l)], [(base, rp E T lv e w)]⟩ ⟨⟨.inl g0.symm, g3, trivial⟩, ⟨WkB.box gb, trivial⟩⟩ ?_
  rcases fine_b hb with ⟨hne, hf⟩ | ⟨rfl, rfl, hf⟩
  · refine WP.use1 hf ?_
    refine WP.iteF rfl ?_
    exact WP.leaf ⟨⟨[(0, .box base 0), (3, .own (21, here) 16 l)], [(base, rp E T lv e w)]⟩, ⟨⟨.inl rfl, .inl rfl, trivial⟩, ⟨WkB.box rfl, trivial⟩⟩, hQ _ _ _ _ hb⟩
  · have hb2 : RB E T lv (q.c : Nat) (q.a : Nat) q := hb.die
    refine WP.use1 hf ?_
    refine WP.iteT rfl ?_
    refine WP.use1 (is_bad hb (mkB [125])) ?_
    refine WP.iteT rfl ?_
    refine WP.use1 (fine_dead (by have := hb.nz; omega)) ?_
    refine WP.iteF rfl ?_
    exact WP.leaf ⟨⟨[(0, .box base 0), (3, .own (21, here) 16 l)], [(base, rp E T lv (q.c : Nat) (q.a : Nat))]⟩, ⟨⟨.inl rfl, .inl rfl, trivial⟩, ⟨WkB.box rfl, trivial⟩⟩, hQ _ _ _ _ hb2⟩
theorem block_b : Rb X 100 [.box base 0] rSs := by
  intro E T lv e w q hb
  refine DoesQ.of Tryz.func100 (by kernel_rfl) ?_
  refine Rb.use (opens_b (mkB [123])) hb ?_
  intro _ T lv e w hb
  refine block_end hb [] _ _ ?_ _ rfl (.inr (.inr ⟨(21, here), 16, 16, rfl, rfl, rfl, rfl⟩)) rfl
  intro T lv e w hb
  refine Rb.use (closes_b (mkB [125])) hb ?_
  intro _ T lv e w hb
  exact WP.leaf ⟨[], T, lv, e, w, hb, rfl⟩
theorem block_loopR (d : Nat) (hd : d ≤ 64) (E : REnv) (K : Ex → St → Id.T Out) (P : Rs (List TStmt) → Out → Prop)
    (hE : ∀ T t r l, RAt E T t r → WP X (K (.exit 0) ⟨[(0, .box base 0), (3, .own (21, here) 16 (ssAll l))], [(base, rp E (T : Nat) d 0 0)]⟩) (P (runG ((gMust (mkB [125])).bind fun _ => .ret l) (t :: r))))
    (hEB : ∀ l T lv e w q res, RB E T lv e w q → IsBad E res q → WP X (K (.exit 0) ⟨[(0, .box base 0), (3, .own (21, here) 16 (ssAll l))], [(base, rp E T lv e w)]⟩) (P res)) :
    ∀ n, (∀ m, m < n → StmtR X m) → ∀ l T t r, RAt E T t r → n + l.length ≤ 1000000000 → runG (pStmts n d l) (t :: r) ≠ .out → ∀ σ : St, getT σ.t 0 = .box base 0 → WkV σ (.own (21, here) 16 (ssAll l)) (getT σ.t 3) → getB σ.b base = some (rp E (T : Nat) d 0 0) →
      WP X (.loop (lp Tryz.f100 0) σ K) (P (runG (pStmts n d l) (t :: r)))
  | 0, _, l, T, t, r, _, _, h, _, _, _, _ => absurd rfl h
  | n + 1, hx, l, T, t, r, hA, hl, hne, σ, g0, g3, gb => by
    refine WP.round ⟨[(0, .box base 0), (3, .own (21, here) 16 (ssAll l))], [(base, rp E (T : Nat) d 0 0)]⟩ ⟨⟨.inl g0.symm, g3, trivial⟩, ⟨WkB.box gb, trivial⟩⟩ ?_
    refine WP.use1 (fine_ok _ _) ?_
    refine WP.iteT rfl ?_
    refine WP.use1 (is_ok hA d (mkB [125])) ?_
    have e1 : runG (pStmts (n + 1) d l) (t :: r) = runG (match isT t (mkB [125]) with
      | true => .next (.ret l)
      | false => (pStmt n d).bind fun s => pStmts n d (l ++ [s])) (t :: r) := rfl
    rw [e1] at hne ⊢
    cases h1 : isT t (mkB [125]) with
    | true =>
      have e3 : runG (.next (.ret l)) (t :: r) = runG ((gMust (mkB [125])).bind fun _ => .ret l) (t :: r) := by
        show _ = runG ((match isT t (mkB [125]) with | true => .next (.ret t.a) | false => .err 140 : Gr Nat).bind fun _ => .ret l) (t :: r)
        rw [h1]; rfl
      dsimp only
      rw [e3]
      refine WP.iteF rfl ?_
      exact WP.leaf ⟨⟨[(0, .box base 0), (3, .own (21, here) 16 (ssAll l))], [(base, rp E (T : Nat) d 0 0)]⟩, ⟨⟨.inl rfl, .inl rfl, trivial⟩, ⟨WkB.box rfl, trivial⟩⟩, hE T t r l hA⟩
    | false =>
      rw [h1] at hne
      dsimp only at hne ⊢
      refine WP.iteT rfl ?_
      refine WP.use1 (fine_ok _ _) ?_
      refine WP.iteT rfl ?_
      refine Rf.useP (P := fun res => Round X _ K (P res)) (hx n (Nat.lt_succ_self n) d hd) hA hne ?_ ?_
      · intro s T t r hA hne
        refine WP.asrt (show ((ssAll l).length + 1) * 208 ≤ 140737488355328 by rw [ssAll_len]; omega) ?_
        have hw : V.own (21, here) 16 (ssAll l ++ [sD s]) = .own (21, here) 16 (ssAll (l ++ [s])) := by rw [ssAll_app, ssAll1]
        refine WP.leaf ?_
        exact block_loopR d hd E K P hE hEB n (fun m hm => hx m (by omega)) (l ++ [s]) T t r hA (by rw [List.length_append]; simp; omega) hne _ rfl (.inl hw.symm) rfl
      · intro s T lv e w q res hb hr
        refine WP.asrt (show ((ssAll l).length + 1) * 208 ≤ 140737488355328 by rw [ssAll_len]; omega) ?_
        have hw : V.own (21, here) 16 (ssAll l ++ [sD s]) = .own (21, here) 16 (ssAll (l ++ [s])) := by rw [ssAll_app, ssAll1]
        refine WP.leaf ?_
        exact block_end hb (ssAll (l ++ [s])) K _ (fun T lv e w hb => hEB _ _ _ _ _ _ _ hb hr) _ rfl (.inl hw.symm) rfl
theorem must_ret_out {α : Type} {x : ByteArray} {y : α} {t : Tk} {r : List Tk} : runG ((gMust x).bind fun _ => Gr.ret y) (t :: r) ≠ .out := by
  show runG ((match isT t x with | true => .next (.ret t.a) | false => .err 140 : Gr Nat).bind fun _ => Gr.ret y) (t :: r) ≠ .out
  cases isT t x
  · intro h; cases h
  · cases r <;> (intro h; cases h)
theorem block_stepR {n : Nat} (hn : n ≤ 1000000000) (hx : ∀ m, m < n → StmtR X m) : BlockR X n := fun d hd => by
  cases n with
  | zero => exact Rf.out
  | succ n =>
    intro E T t r hA hne
    refine DoesQ.of Tryz.func100 (by kernel_rfl) ?_
    have e1 : pBlock (n + 1) d = (gOpen (mkB [123]) d).bind fun _ => pStmts n (d + 1) [] := rfl
    rw [e1] at hne ⊢
    refine Rf.open (P := RPost E d rSs) hd hA hne ?_ ?_
    · intro h64 T t r hA hne
      refine block_loopR (d + 1) (by omega) E _ (RPost E d rSs) ?_ ?_ n (fun m hm => hx m (by omega)) [] T t r hA (by simp; omega) hne _ rfl (.inr (.inr ⟨(21, here), 16, 16, rfl, rfl, rfl, rfl⟩)) rfl
      · intro T t r l hA
        refine Rf.use (closes_f (mkB [125]) d hd) hA must_ret_out ?_ ?_
        · intro _ T t r hA _; exact WP.leaf ⟨T, t, r, rfl, hA, rfl⟩
        · intro _ T lv e w q hb; exact WP.leaf ⟨l, T, lv, e, w, hb, rfl⟩
      · intro l T lv e w q res hb hr
        refine Rb.use (closes_b (mkB [125])) hb ?_
        intro _ T lv e w hb
        exact WP.leaf (BadO.post ⟨l, T, lv, e, w, hb, rfl⟩ hr)
    · intro T lv e w q res hb hr
      refine block_end hb [] _ _ ?_ _ rfl (.inr (.inr ⟨(21, here), 16, 16, rfl, rfl, rfl, rfl⟩)) rfl
      intro T lv e w hb
      refine Rb.use (closes_b (mkB [125])) hb ?_
      intro _ T lv e w hb
      exact WP.leaf (BadO.post ⟨[], T, lv, e, w, hb, rfl⟩ hr)
end Go.Proofs.YtacfbgfphkfobaaGreatDoor.Id
/-! ## PaRefH -/
namespace Go.Proofs.YtacfbgfphkfobaaGreatDoor.Id
open Go
set_option linter.unusedVariables false
set_option linter.unusedSimpArgs false
set_option maxRecDepth 100000
set_option maxHeartbeats 4000000
variable {X : Given}
/-- a statement as it begins -/
abbrev st0 (a : Int) : TStmt := .mk 0 a .empty ex0 [] [] false
abbrev rWd (a : Int) (x : Int × ByteArray × TExpr) (c : List V) : Out := .ret (.agg (sD (.mk x.1 a x.2.1 x.2.2 [] [] false))) [c]
theorem word_f {n : Nat} (hn : n ≤ 1000000000) (d : Nat) (hd : d ≤ 64) {E : REnv} {T : Nat} {t : Tk} {r : List Tk} (hA : RAt E T t r) (hne : runG (pNamed n d) (t :: r) ≠ .out) :
    DoesQ X 142 [.box base 0, .agg (sD (st0 t.a))] [rp E T d 0 0] (RPost E d (rWd t.a) (runG (pNamed n d) (t :: r))) := by
  refine DoesQ.of Tryz.func142 (by kernel_rfl) ?_
  have hgo : ∀ w t1 r1, runG (gOf 1) (t :: r) = .ok w (t1 :: r1) → w.2 = t.a := fun w t1 r1 h => by
    have e : runG (gOf 1) (t :: r) = runG (match decide (t.k = 1) with | true => .next (.ret (t.s, t.a)) | false => .err 140) (t :: r) := rfl
    rw [e] at h
    cases hk : decide (t.k = 1) with
    | false => rw [hk] at h; cases h
    | true => rw [hk] at h; cases r <;> cases h; rfl
  unfold pNamed at hne ⊢
  rw [runG_bind] at hne ⊢
  have hk := kind_f (X := X) 1 (by omega) d E T t r hA (by intro e; rw [e] at hne; exact hne rfl)
  refine WP.use hk fun o ho => ?_
  cases hr : runG (gOf 1) (t :: r) with
  | out => rw [hr] at hne; exact absurd rfl hne
  | more =>
    rw [hr] at ho
    obtain ⟨q, hq, w, T, lv, e, w', hb, rfl⟩ := ho
    refine WP.use1 (is_bad hb (mkB [61])) ?_
    refine WP.iteF rfl ?_
    have hb2 : RB E T lv (q.c : Nat) (q.a : Nat) q := hb.die
    refine WP.use1 (is_bad hb2 (mkB [46])) ?_
    refine WP.iteF rfl ?_
    refine Rb.use args_b hb2 ?_
    intro l T lv e' w2 hb
    exact WP.leaf (BadO.post ⟨(7, b0, .mk 3 t.a b0 w.1 val0 0 l), T, lv, e', w2, hb, rfl⟩ (hq.conv _))
  | err c l =>
    rw [hr] at ho
    obtain ⟨q, hq, w, T, lv, e, w', hb, rfl⟩ := ho
    refine WP.use1 (is_bad hb (mkB [61])) ?_
    refine WP.iteF rfl ?_
    have hb2 : RB E T lv (q.c : Nat) (q.a : Nat) q := hb.die
    refine WP.use1 (is_bad hb2 (mkB [46])) ?_
    refine WP.iteF rfl ?_
    refine Rb.use args_b hb2 ?_
    intro l T lv e' w2 hb
    exact WP.leaf (BadO.post ⟨(7, b0, .mk 3 t.a b0 w.1 val0 0 l), T, lv, e', w2, hb, rfl⟩ (hq.conv _))
  | ok w l =>
    rw [hr] at ho hne
    obtain ⟨T1, t1, r1, rfl, hA1, rfl⟩ := ho
    have hw := hgo w t1 r1 hr
    show WP X _ (RPost E d (rWd t.a) (runG ((gIs (mkB [61])).bind fun
      | true => .next ((pLine n 0 d).bind fun e => .ret (2, w.1, e))
      | false => (gIs (mkB [46])).bind fun
        | true => .next ((gOf 1).bind fun w2 => (pArgs n d).bind fun l => .ret (7, b0, .mk 3 w.2 w.1 w2.1 val0 0 l))
        | false => (pArgs n d).bind fun l => .ret (7, b0, .mk 3 w.2 b0 w.1 val0 0 l)) (t1 :: r1)))
    have hne1 : runG ((gIs (mkB [61])).bind fun
      | true => .next ((pLine n 0 d).bind fun e => .ret (2, w.1, e))
      | false => (gIs (mkB [46])).bind fun
        | true => .next ((gOf 1).bind fun w2 => (pArgs n d).bind fun l => .ret (7, b0, .mk 3 w.2 w.1 w2.1 val0 0 l))
        | false => (pArgs n d).bind fun l => .ret ((7 : Int), b0, .mk 3 w.2 b0 w.1 val0 0 l)) (t1 :: r1) ≠ .out := hne
    clear hne
    rw [hw, runG_is] at hne1 ⊢
    refine WP.use1 (is_ok hA1 d (mkB [61])) ?_
    cases h1 : isT t1 (mkB [61]) with
    | true =>
      rw [h1] at hne1
      refine WP.iteT rfl ?_
      refine Rf.useN (P := RPost E d (rWd t.a)) (expr_f hn d hd) expr_b hA1 (isT_k h1) hne1 ?_ ?_
      · intro e T t2 r hA hne
        exact WP.leaf ⟨T, t2, r, rfl, hA, rfl⟩
      · intro e T lv e' w' q res hb hr
        exact WP.leaf (BadO.post ⟨(2, w.1, e), T, lv, e', w', hb, rfl⟩ hr)
    | false =>
      rw [h1] at hne1
      refine WP.iteF rfl ?_
      dsimp only at hne1 ⊢
      rw [runG_is] at hne1 ⊢
      refine WP.use1 (is_ok hA1 d (mkB [46])) ?_
      cases h2 : isT t1 (mkB [46]) with
      | true =>
        rw [h2] at hne1
        refine WP.iteT rfl ?_
        refine Rf.useN (P := RPost E d (rWd t.a)) (kind_f 1 (by omega) d) (kind_b 1) hA1 (isT_k h2) hne1 ?_ ?_
        · intro w2 T t2 r hA hne
          refine Rf.use (args_f hn d hd) hA hne ?_ ?_
          · intro l T t3 r hA hne
            exact WP.leaf ⟨T, t3, r, rfl, hA, rfl⟩
          · intro l T lv e' w' q hb
            exact WP.leaf ⟨(7, b0, .mk 3 t.a w.1 w2.1 val0 0 l), T, lv, e', w', hb, rfl⟩
        · intro w2 T lv e' w' q res hb hr
          refine Rb.use args_b hb ?_
          intro l T lv e' w' hb
          exact WP.leaf (BadO.post ⟨(7, b0, .mk 3 t.a w.1 w2.1 val0 0 l), T, lv, e', w', hb, rfl⟩ hr)
      | false =>
        rw [h2] at hne1
        refine WP.iteF rfl ?_
        refine Rf.use (args_f hn d hd) hA1 hne1 ?_ ?_
        · intro l T t3 r hA hne
          exact WP.leaf ⟨T, t3, r, rfl, hA, rfl⟩
        · intro l T lv e' w' q hb
          exact WP.leaf ⟨(7, b0, .mk 3 t.a b0 w.1 val0 0 l), T, lv, e', w', hb, rfl⟩
theorem must_a {α : Type} {x : ByteArray} (f : Nat → Gr α) (t : Tk) (r : List Tk) : runG ((gMust x).bind f) (t :: r) = runG ((gMust x).bind fun _ => f t.a) (t :: r) := by
  show runG ((match isT t x with | true => .next (.ret t.a) | false => .err 140 : Gr Nat).bind f) (t :: r) = runG ((match isT t x with | true => .next (.ret t.a) | false => .err 140 : Gr Nat).bind fun _ => f t.a) (t :: r)
  cases isT t x <;> rfl
theorem branch_stepR {n : Nat} (hn : n ≤ 1000000000) (hb : ∀ m, m < n → BlockR X m) (hr : ∀ m, m < n → BranchR X m) : BranchR X n := fun d hd => by
  cases n with
  | zero => exact Rf.out
  | succ n =>
    intro E T t r hA hne
    have hB := hb n (Nat.lt_succ_self n) d hd
    have hBr := hr n (Nat.lt_succ_self n) d hd
    have hX := expr_f (X := X) (n := n) (by omega) d hd
    refine DoesQ.of Tryz.func141 (by kernel_rfl) ?_
    have e1 : pBranch (n + 1) d = (gMust kIf).bind fun a => (pLine n 0 d).bind fun e => (pBlock n d).bind fun b => (gIs kElse).bind fun
      | false => .ret (.mk 3 a b0 e b [] false)
      | true => .next ((gIs kIf).bind fun
        | true => (pBranch n d).bind fun s => .ret (.mk 3 a b0 e b [s] true)
        | false => (pBlock n d).bind fun l => .ret (.mk 3 a b0 e b l true)) := rfl
    rw [e1, must_a] at hne ⊢
    refine WP.use1 (lk_ok hA d) ?_
    refine Rf.use (take_f kIf d) hA hne ?_ ?_
    · intro _ T t1 r hA hne
      refine Rf.use hX hA hne ?_ ?_
      · intro e T t2 r hA hne
        refine Rf.use hB hA hne ?_ ?_
        · intro b T t3 r hA hne
          have e2 : runG ((gIs kElse).bind fun
            | false => .ret (TStmt.mk 3 (t.a : Nat) b0 e b [] false)
            | true => .next ((gIs kIf).bind fun
              | true => (pBranch n d).bind fun s => .ret (.mk 3 t.a b0 e b [s] true)
              | false => (pBlock n d).bind fun l => .ret (.mk 3 t.a b0 e b l true))) (t3 :: r) = runG (match isT t3 kElse with
            | false => .ret (TStmt.mk 3 (t.a : Nat) b0 e b [] false)
            | true => .next ((gIs kIf).bind fun
              | true => (pBranch n d).bind fun s => .ret (.mk 3 t.a b0 e b [s] true)
              | false => (pBlock n d).bind fun l => .ret (.mk 3 t.a b0 e b l true))) (t3 :: r) := rfl
          rw [e2] at hne ⊢
          refine WP.use1 (is_ok hA d kElse) ?_
          cases h3 : isT t3 kElse with
          | false =>
            refine WP.iteT rfl ?_
            exact WP.leaf ⟨T, t3, r, rfl, hA, rfl⟩
          | true =>
            rw [h3] at hne
            refine WP.iteF rfl ?_
            dsimp only at hne ⊢
            have hs := hA.rs (isT_k h3)
            rw [run_next] at hne ⊢
            have hwr := tk_wrap hA
            cases r with
            | nil =>
              have hbd : RB E ((T + 1 : Nat) : Int) d 0 0 ⟨E.f.1, E.f.2, ((T + 1 : Nat) : Int)⟩ := RPend.bad hs d
              have hi := is_bad (X := X) hbd kIf
              rw [← hwr] at hi
              refine WP.use1 hi ?_
              refine WP.iteF rfl ?_
              have hb2 : RB E (IntKind.i64.wrap ((T : Int) + 1)) d (E.f.1 : Nat) (E.f.2 : Nat) ⟨E.f.1, E.f.2, ((T + 1 : Nat) : Int)⟩ := by rw [hwr]; exact hbd.die
              refine Rb.use block_b hb2 ?_
              intro l T lv e' w' hb
              exact WP.leaf ⟨_, RPend.isBad hs, .mk 3 t.a b0 e b l true, T, lv, e', w', hb, rfl⟩
            | cons u r =>
              have hs : RAt E (T + 1) u r := hs
              have e3 : runL ((gIs kIf).bind fun
                | true => (pBranch n d).bind fun s => .ret (TStmt.mk 3 (t.a : Nat) b0 e b [s] true)
                | false => (pBlock n d).bind fun l => .ret (.mk 3 t.a b0 e b l true)) (u :: r) = runG (match isT u kIf with
                | true => (pBranch n d).bind fun s => .ret (TStmt.mk 3 (t.a : Nat) b0 e b [s] true)
                | false => (pBlock n d).bind fun l => .ret (.mk 3 t.a b0 e b l true)) (u :: r) := rfl
              rw [e3] at hne ⊢
              have hi := is_ok (X := X) hs d kIf
              rw [← hwr] at hi
              refine WP.use1 hi ?_
              cases h4 : isT u kIf with
              | true =>
                rw [h4] at hne
                refine WP.iteT rfl ?_
                dsimp only at hne ⊢
                rw [runG_bind] at hne ⊢
                have hD := hBr E (T + 1) u r hs (fun e => hne (by rw [e]; rfl))
                rw [← hwr] at hD
                refine Rf.seq (P := RPost E d rS) hD hne ?_ ?_
                · intro s T t5 r hA _
                  refine WP.leaf ⟨T, t5, r, rfl, hA, ?_⟩
                  show Out.ret (.agg [_, _, _, _, _, _, _, _, _, _, _, _, _, _, .sl 16 [sD s], _]) _ = Out.ret (.agg [_, _, _, _, _, _, _, _, _, _, _, _, _, _, .sl 16 (ssAll [s]), _]) _
                  rw [ssAll1]; rfl
                · intro s T lv e' w' q res hb hr
                  refine WP.leaf (BadO.post ⟨.mk 3 t.a b0 e b [s] true, T, lv, e', w', hb, ?_⟩ hr)
                  show Out.ret (.agg [_, _, _, _, _, _, _, _, _, _, _, _, _, _, .sl 16 [sD s], _]) _ = Out.ret (.agg [_, _, _, _, _, _, _, _, _, _, _, _, _, _, .sl 16 (ssAll [s]), _]) _
                  rw [ssAll1]; rfl
              | false =>
                rw [h4] at hne
                refine WP.iteF rfl ?_
                dsimp only at hne ⊢
                rw [runG_bind] at hne ⊢
                have hD := hB E (T + 1) u r hs (fun e => hne (by rw [e]; rfl))
                rw [← hwr] at hD
                refine Rf.seq (P := RPost E d rS) hD hne ?_ ?_
                · intro l T t5 r hA _
                  exact WP.leaf ⟨T, t5, r, rfl, hA, rfl⟩
                · intro l T lv e' w' q res hb hr
                  exact WP.leaf (BadO.post ⟨.mk 3 t.a b0 e b l true, T, lv, e', w', hb, rfl⟩ hr)
        · intro b T lv e' w' q hb
          refine WP.use1 (is_bad hb kElse) ?_
          refine WP.iteT rfl ?_
          exact WP.leaf ⟨.mk 3 t.a b0 e b [] false, T, lv, _, _, hb.die, rfl⟩
      · intro e T lv e' w' q hb
        refine Rb.use block_b hb ?_
        intro b T lv e' w' hb
        refine WP.use1 (is_bad hb kElse) ?_
        refine WP.iteT rfl ?_
        exact WP.leaf ⟨.mk 3 t.a b0 e b [] false, T, lv, _, _, hb.die, rfl⟩
    · intro _ T lv e' w' q hb
      refine Rb.use expr_b hb ?_
      intro e T lv e' w' hb
      refine Rb.use block_b hb ?_
      intro b T lv e' w' hb
      refine WP.use1 (is_bad hb kElse) ?_
      refine WP.iteT rfl ?_
      exact WP.leaf ⟨.mk 3 t.a b0 e b [] false, T, lv, _, _, hb.die, rfl⟩
end Go.Proofs.YtacfbgfphkfobaaGreatDoor.Id
/-! ## PaRefI -/
namespace Go.Proofs.YtacfbgfphkfobaaGreatDoor.Id
open Go
set_option linter.unusedVariables false
set_option linter.unusedSimpArgs false
set_option maxRecDepth 100000
set_option maxHeartbeats 4000000
variable {X : Given}
theorem stmt_stepR {n : Nat} (hn : n ≤ 1000000000) (hb : ∀ m, m < n → BlockR X m) (hr : ∀ m, m < n → BranchR X m) : StmtR X n := fun d hd => by
  cases n with
  | zero => exact Rf.out
  | succ n =>
    intro E T t r hA hne
    have hB := hb n (Nat.lt_succ_self n) d hd
    have hBr := hr n (Nat.lt_succ_self n) d hd
    have hX := expr_f (X := X) (n := n) (by omega) d hd
    have e1 : runG (pStmt (n + 1) d) (t :: r) = runG (match isT t kVar with
      | true => .next ((gOf 1).bind fun w => (gMust (mkB [61])).bind fun _ => (pLine n 0 d).bind fun e => gSemi (.mk 1 t.a w.1 e [] [] false))
      | false => match isT t kIf with
        | true => pBranch n d
        | false => match isT t kWhile with
          | true => .next ((pLine n 0 d).bind fun e => (pBlock n d).bind fun b => .ret (.mk 4 t.a b0 e b [] false))
          | false => match isT t kReturn with
            | true => .next ((gIs (mkB [59])).bind fun
              | true => gSemi (.mk 5 t.a b0 expr0 [] [] false)
              | false => (pLine n 0 d).bind fun e => gSemi (.mk 5 t.a b0 e [] [] false))
            | false => match isT t kPrint with
              | true => .next ((pLine n 0 d).bind fun e => gSemi (.mk 6 t.a b0 e [] [] false))
              | false => (pNamed n d).bind fun x => gSemi (.mk x.1 t.a x.2.1 x.2.2 [] [] false)) (t :: r) := rfl
    rw [e1] at hne ⊢
    refine DoesQ.of Tryz.func127 (by kernel_rfl) ?_
    refine WP.use1 (lk_ok hA d) ?_
    refine WP.use1 (is_ok hA d kVar) ?_
    cases h1 : isT t kVar with
    | true =>
      rw [h1] at hne
      refine WP.iteT rfl ?_
      dsimp only at hne ⊢
      refine Rf.useN (P := RPost E d rS) (kind_f 1 (by omega) d) (kind_b 1) hA (isT_k h1) hne ?_ ?_
      · intro w T t1 r hA hne
        refine Rf.use (take_f (mkB [61]) d) hA hne ?_ ?_
        · intro _ T t2 r hA hne
          refine Rf.use hX hA hne ?_ ?_
          · intro e T t3 r hA hne
            refine Rf.use (take_f (mkB [59]) d) hA must_ret_out ?_ ?_
            · intro _ T t5 r hA _; exact WP.leaf ⟨T, t5, r, rfl, hA, rfl⟩
            · intro _ T lv e' w' q hb; exact WP.leaf ⟨.mk 1 t.a w.1 e [] [] false, T, lv, e', w', hb, rfl⟩
          · intro e T lv e' w' q hb
            refine Rb.use (take_b (mkB [59])) hb ?_
            intro _ T lv e' w' hb
            exact WP.leaf (⟨.mk 1 t.a w.1 e [] [] false, T, lv, e', w', hb, rfl⟩)
        · intro _ T lv e' w' q hb
          refine Rb.use expr_b hb ?_
          intro e T lv e' w' hb
          refine Rb.use (take_b (mkB [59])) hb ?_
          intro _ T lv e' w' hb
          exact WP.leaf (⟨.mk 1 t.a w.1 e [] [] false, T, lv, e', w', hb, rfl⟩)
      · intro w T lv e' w' q res hb hr
        refine Rb.use (take_b (mkB [61])) hb ?_
        intro _ T lv e' w' hb
        refine Rb.use expr_b hb ?_
        intro e T lv e' w' hb
        refine Rb.use (take_b (mkB [59])) hb ?_
        intro _ T lv e' w' hb
        exact WP.leaf (BadO.post ⟨.mk 1 t.a w.1 e [] [] false, T, lv, e', w', hb, rfl⟩ hr)
    | false =>
      rw [h1] at hne
      refine WP.iteF rfl ?_
      dsimp only at hne ⊢
      refine WP.use1 (is_ok hA d kIf) ?_
      cases h2 : isT t kIf with
      | true =>
        rw [h2] at hne
        refine WP.iteT rfl ?_
        dsimp only at hne ⊢
        refine WP.use (hBr E T t r hA hne) fun o ho => ?_
        revert ho
        cases hrr : runG (pBranch n d) (t :: r) with
        | ok x l => rintro ⟨T, t, r, rfl, hA, rfl⟩; exact WP.leaf ⟨T, t, r, rfl, hA, rfl⟩
        | more => rintro ⟨q, hq, x, T, lv, e, w, hb, rfl⟩; exact WP.leaf ⟨q, hq, x, T, lv, e, w, hb, rfl⟩
        | err c l => rintro ⟨q, hq, x, T, lv, e, w, hb, rfl⟩; exact WP.leaf ⟨q, hq, x, T, lv, e, w, hb, rfl⟩
        | out => exact fun h => h.elim
      | false =>
        rw [h2] at hne
        refine WP.iteF rfl ?_
        dsimp only at hne ⊢
        refine WP.use1 (is_ok hA d kWhile) ?_
        cases h3 : isT t kWhile with
        | true =>
          rw [h3] at hne
          refine WP.iteT rfl ?_
          dsimp only at hne ⊢
          refine Rf.useN (P := RPost E d rS) hX expr_b hA (isT_k h3) hne ?_ ?_
          · intro e T t1 r hA hne
            refine Rf.use hB hA hne ?_ ?_
            · intro b T t2 r hA hne; exact WP.leaf ⟨T, t2, r, rfl, hA, rfl⟩
            · intro b T lv e' w' q hb; exact WP.leaf ⟨.mk 4 t.a b0 e b [] false, T, lv, e', w', hb, rfl⟩
          · intro e T lv e' w' q res hb hr
            refine Rb.use block_b hb ?_
            intro b T lv e' w' hb
            exact WP.leaf (BadO.post ⟨.mk 4 t.a b0 e b [] false, T, lv, e', w', hb, rfl⟩ hr)
        | false =>
          rw [h3] at hne
          refine WP.iteF rfl ?_
          dsimp only at hne ⊢
          refine WP.use1 (is_ok hA d kReturn) ?_
          cases h4 : isT t kReturn with
          | true =>
            rw [h4] at hne
            refine WP.iteT rfl ?_
            dsimp only at hne ⊢
            have hs := hA.rs (isT_k h4)
            rw [run_next] at hne ⊢
            have hwr := tk_wrap hA
            have hf := fine_ok (X := X) (E := E) (IntKind.i64.wrap ((T : Int) + 1)) d
            refine WP.use1 hf ?_
            refine WP.iteT rfl ?_
            cases r with
            | nil =>
              have hbd : RB E ((T + 1 : Nat) : Int) d 0 0 ⟨E.f.1, E.f.2, ((T + 1 : Nat) : Int)⟩ := RPend.bad hs d
              have hi := is_bad (X := X) hbd (mkB [59])
              rw [← hwr] at hi
              have hb : RB E (IntKind.i64.wrap ((T : Int) + 1)) d (E.f.1 : Nat) (E.f.2 : Nat) ⟨E.f.1, E.f.2, ((T + 1 : Nat) : Int)⟩ := by rw [hwr]; exact hbd.die
              refine WP.use1 hi ?_
              refine WP.iteT rfl ?_
              refine WP.use1 (fine_dead (by have := hbd.nz; simpa using this)) ?_
              refine WP.iteF rfl ?_
              refine Rb.use (take_b (mkB [59])) hb ?_
              intro _ T lv e' w' hb
              exact WP.leaf ⟨_, RPend.isBad hs, .mk 5 t.a b0 expr0 [] [] false, T, lv, e', w', hb, rfl⟩
            | cons u r =>
              have hs : RAt E (T + 1) u r := hs
              have e3 : runL ((gIs (mkB [59])).bind fun
                | true => gSemi (TStmt.mk 5 t.a b0 expr0 [] [] false)
                | false => (pLine n 0 d).bind fun e => gSemi (.mk 5 t.a b0 e [] [] false)) (u :: r) = runG (match isT u (mkB [59]) with
                | true => gSemi (TStmt.mk 5 t.a b0 expr0 [] [] false)
                | false => (pLine n 0 d).bind fun e => gSemi (.mk 5 t.a b0 e [] [] false)) (u :: r) := rfl
              rw [e3] at hne ⊢
              have hi := is_ok (X := X) hs d (mkB [59])
              rw [← hwr] at hi
              refine WP.use1 hi ?_
              cases h5 : isT u (mkB [59]) with
              | true =>
                refine WP.iteF rfl ?_
                dsimp only
                have hD := take_f (X := X) (mkB [59]) d E (T + 1) u r hs (by
                  have := must_ret_out (α := Unit) (x := mkB [59]) (y := ()) (t := u) (r := r)
                  intro e
                  rw [runG_bind, e] at this
                  exact this rfl)
                rw [← hwr] at hD
                show WP X _ (RPost E d rS (runG ((gMust (mkB [59])).bind fun _ => .ret (TStmt.mk 5 t.a b0 expr0 [] [] false)) (u :: r)))
                rw [runG_bind]
                refine Rf.seq (P := RPost E d rS) (h := fun _ => Gr.ret (TStmt.mk 5 t.a b0 expr0 [] [] false)) hD (by rw [← runG_bind]; exact must_ret_out) ?_ ?_
                · intro _ T t5 r hA _; exact WP.leaf ⟨T, t5, r, rfl, hA, rfl⟩
                · intro _ T lv e' w' q res hb hr; exact WP.leaf (BadO.post ⟨.mk 5 t.a b0 expr0 [] [] false, T, lv, e', w', hb, rfl⟩ hr)
              | false =>
                rw [h5] at hne
                refine WP.iteT rfl ?_
                refine WP.use1 hf ?_
                refine WP.iteT rfl ?_
                dsimp only at hne ⊢
                rw [runG_bind] at hne ⊢
                have hD := hX E (T + 1) u r hs (fun e => hne (by rw [e]; rfl))
                rw [← hwr] at hD
                refine Rf.seq (P := RPost E d rS) hD hne ?_ ?_
                · intro e T t5 r hA hne
                  refine Rf.use (take_f (mkB [59]) d) hA must_ret_out ?_ ?_
                  · intro _ T t5 r hA _; exact WP.leaf ⟨T, t5, r, rfl, hA, rfl⟩
                  · intro _ T lv e' w' q hb; exact WP.leaf ⟨.mk 5 t.a b0 e [] [] false, T, lv, e', w', hb, rfl⟩
                · intro e T lv e' w' q res hb hr
                  refine Rb.use (take_b (mkB [59])) hb ?_
                  intro _ T lv e' w' hb
                  exact WP.leaf (BadO.post ⟨.mk 5 t.a b0 e [] [] false, T, lv, e', w', hb, rfl⟩ hr)
          | false =>
            rw [h4] at hne
            refine WP.iteF rfl ?_
            dsimp only at hne ⊢
            refine WP.use1 (is_ok hA d kPrint) ?_
            cases h5 : isT t kPrint with
            | true =>
              rw [h5] at hne
              refine WP.iteT rfl ?_
              dsimp only at hne ⊢
              refine Rf.useN (P := RPost E d rS) hX expr_b hA (isT_k h5) hne ?_ ?_
              · intro e T t1 r hA hne
                refine Rf.use (take_f (mkB [59]) d) hA must_ret_out ?_ ?_
                · intro _ T t5 r hA _; exact WP.leaf ⟨T, t5, r, rfl, hA, rfl⟩
                · intro _ T lv e' w' q hb; exact WP.leaf ⟨.mk 6 t.a b0 e [] [] false, T, lv, e', w', hb, rfl⟩
              · intro e T lv e' w' q res hb hr
                refine Rb.use (take_b (mkB [59])) hb ?_
                intro _ T lv e' w' hb
                exact WP.leaf (BadO.post ⟨.mk 6 t.a b0 e [] [] false, T, lv, e', w', hb, rfl⟩ hr)
            | false =>
              rw [h5] at hne
              refine WP.iteF rfl ?_
              dsimp only at hne ⊢
              rw [runG_bind] at hne ⊢
              refine Rf.seq (P := RPost E d rS) (word_f (by omega) d hd hA (fun e => hne (by rw [e]; rfl))) hne ?_ ?_
              · intro x T t1 r hA hne
                refine Rf.use (take_f (mkB [59]) d) hA must_ret_out ?_ ?_
                · intro _ T t5 r hA _; exact WP.leaf ⟨T, t5, r, rfl, hA, rfl⟩
                · intro _ T lv e' w' q hb; exact WP.leaf ⟨.mk x.1 t.a x.2.1 x.2.2 [] [] false, T, lv, e', w', hb, rfl⟩
              · intro x T lv e' w' q res hb hr
                refine Rb.use (take_b (mkB [59])) hb ?_
                intro _ T lv e' w' hb
                exact WP.leaf (BadO.post ⟨.mk x.1 t.a x.2.1 x.2.2 [] [] false, T, lv, e', w', hb, rfl⟩ hr)
theorem stmtsR : ∀ (n : Nat), n ≤ 1000000000 → BlockR X n ∧ StmtR X n ∧ BranchR X n := by
  intro n
  induction n using Nat.strongRecOn with
  | ind n ih =>
    intro hn
    have ih' := fun m (hm : m < n) => ih m hm (by omega)
    exact ⟨block_stepR hn (fun m hm => (ih' m hm).2.1), stmt_stepR hn (fun m hm => (ih' m hm).1) (fun m hm => (ih' m hm).2.2), branch_stepR hn (fun m hm => (ih' m hm).1) (fun m hm => (ih' m hm).2.2)⟩
theorem block_f {n : Nat} (hn : n ≤ 1000000000) : BlockR X n := (stmtsR n hn).1
end Go.Proofs.YtacfbgfphkfobaaGreatDoor.Id
/-! ## PaRefJ -/
namespace Go.Proofs.YtacfbgfphkfobaaGreatDoor.Id
open Go
set_option linter.unusedVariables false
set_option linter.unusedSimpArgs false
set_option maxRecDepth 100000
set_option maxHeartbeats 4000000
variable {X : Given}
theorem kind_yes {E : REnv} {T : Nat} {t : Tk} {r : List Tk} (hA : RAt E T t r) (k : Nat) (h : t.k = k) (lv : Int) : Does X 95 [.box base 0, vI k] [rp E T lv 0 0] (.ret (vS t.s) [rp E (IntKind.i64.wrap ((T : Int) + 1)) lv 0 0]) := by
  have htx := hA.text
  refine DoesQ.eq (DoesQ.of Tryz.func95 (by kernel_rfl) ?_)
  refine WP.use1 (lk_ok hA lv) ?_
  refine WP.iteF (by simp) ?_
  refine WP.iteF (by simp [h]) ?_
  refine WP.asrt (by kernel_rfl) ?_
  refine WP.asrt ⟨by simp, by simp; omega, by simp; omega⟩ ?_
  refine WP.asrt (by kernel_rfl) ?_
  refine WP.leaf ?_
  show Out.ret (vS (E.s.extract t.a (t.a + t.s.size))) [rp E (IntKind.i64.wrap ((T : Int) + 1)) lv 0 0] = _
  rw [htx.2]
theorem kind_no {E : REnv} {T : Nat} {t : Tk} {r : List Tk} (hA : RAt E T t r) (k : Nat) (h : t.k ≠ k) (lv : Int) : Does X 95 [.box base 0, vI k] [rp E T lv 0 0] (.ret (vS .empty) [rp E T lv 140 (t.a : Nat)]) := by
  refine DoesQ.eq (DoesQ.of Tryz.func95 (by kernel_rfl) ?_)
  refine WP.use1 (lk_ok hA lv) ?_
  refine WP.iteF (by simp) ?_
  refine WP.iteT (by simp; omega) ?_
  refine WP.use1 (wrong_ok hA lv) ?_
  exact WP.leaf rfl
theorem kind_bad {E : REnv} {T lv e w : Int} {q : Flt} (hb : RB E T lv e w q) (k : Int) : Does X 95 [.box base 0, vI k] [rp E T lv e w] (.ret (vS .empty) [rp E T lv (q.c : Nat) (q.a : Nat)]) := by
  have hq := hb.nz
  refine DoesQ.eq (DoesQ.of Tryz.func95 (by kernel_rfl) ?_)
  refine WP.use1 (lk_bad hb) ?_
  refine WP.iteT (by simp [hq]) ?_
  exact WP.leaf rfl
abbrev rI (x : TIncl) (c : List V) : Out := .ret (.agg (iD x)) [c]
abbrev rC (x : TCons) (c : List V) : Out := .ret (.agg (cD x)) [c]
theorem incl_f : Rf X 64 [.box base 0] (0 : Nat) (0 : Nat) pIncl rI := by
  intro E T t r hA hne
  refine DoesQ.of Tryz.func64 (by kernel_rfl) ?_
  have e1 : pIncl = (gMust kInclude).bind fun a => (gOf 3).bind fun q => (gMust kAs).bind fun _ => (gOf 1).bind fun w => (gMust (mkB [59])).bind fun _ => .ret ⟨txtZ q.1, w.1, a⟩ := rfl
  rw [e1, must_a] at hne ⊢
  obtain ⟨z0, htx0⟩ := rtext (X := X) .empty (by decide)
  refine WP.use1 (lk_ok hA _) ?_
  refine Rf.use (take_f kInclude _) hA hne ?_ ?_
  · intro _ T t1 r hA hne
    by_cases h3 : t1.k = 3
    · have e2 : runG ((gOf 3).bind fun q => (gMust kAs).bind fun _ => (gOf 1).bind fun w => (gMust (mkB [59])).bind fun _ => .ret (⟨txtZ q.1, w.1, t.a⟩ : TIncl)) (t1 :: r) = runG (.next ((gMust kAs).bind fun _ => (gOf 1).bind fun w => (gMust (mkB [59])).bind fun _ => .ret ⟨txtZ t1.s, w.1, t.a⟩)) (t1 :: r) := by
        show runG ((match decide (t1.k = 3) with | true => .next (.ret (t1.s, t1.a)) | false => .err 140 : Gr (ByteArray × Nat)).bind _) (t1 :: r) = _
        rw [decide_eq_true h3]; rfl
      rw [e2] at hne ⊢
      obtain ⟨z, htx⟩ := rtext (X := X) t1.s (by have := hA.sz; omega)
      refine WP.use1 (kind_yes hA 3 h3 _) ?_
      refine WP.use1 htx ?_
      refine Rf.useN (P := RPost E (0 : Nat) rI) (take_f kAs _) (take_b kAs) hA (by omega) hne ?_ ?_
      · intro _ T t2 r hA hne
        refine Rf.use (kind_f 1 (by omega) _) hA hne ?_ ?_
        · intro w T t3 r hA hne
          refine Rf.use (take_f (mkB [59]) _) hA must_ret_out ?_ ?_
          · intro _ T t4 r hA _; exact WP.leaf ⟨T, t4, r, rfl, hA, rfl⟩
          · intro _ T lv e' w' q hb; exact WP.leaf ⟨⟨txtZ t1.s, w.1, t.a⟩, T, lv, e', w', hb, rfl⟩
        · intro w T lv e' w' q hb
          refine Rb.use (take_b (mkB [59])) hb ?_
          intro _ T lv e' w' hb
          exact WP.leaf ⟨⟨txtZ t1.s, w.1, t.a⟩, T, lv, e', w', hb, rfl⟩
      · intro _ T lv e' w' q res hb hr
        refine Rb.use (kind_b 1) hb ?_
        intro w T lv e' w' hb
        refine Rb.use (take_b (mkB [59])) hb ?_
        intro _ T lv e' w' hb
        exact WP.leaf (BadO.post ⟨⟨txtZ t1.s, w.1, t.a⟩, T, lv, e', w', hb, rfl⟩ hr)
    · have e2 : runG ((gOf 3).bind fun q => (gMust kAs).bind fun _ => (gOf 1).bind fun w => (gMust (mkB [59])).bind fun _ => .ret (⟨txtZ q.1, w.1, t.a⟩ : TIncl)) (t1 :: r) = .err 140 (t1 :: r) := by
        show runG ((match decide (t1.k = 3) with | true => .next (.ret (t1.s, t1.a)) | false => .err 140 : Gr (ByteArray × Nat)).bind _) (t1 :: r) = _
        rw [decide_eq_false h3]; rfl
      rw [e2]
      refine WP.use1 (kind_no hA 3 h3 _) ?_
      refine WP.use1 htx0 ?_
      have hb : RB E (T : Int) (0 : Nat) 140 (t1.a : Nat) ⟨140, t1.a, T⟩ := .inl ⟨rfl, rfl, by simp, rfl⟩
      refine Rb.use (take_b kAs) hb ?_
      intro _ T' lv e' w' hb
      refine Rb.use (kind_b 1) hb ?_
      intro w T' lv e' w' hb
      refine Rb.use (take_b (mkB [59])) hb ?_
      intro _ T' lv e' w' hb
      exact WP.leaf (BadO.post ⟨⟨txtZ .empty, w.1, t.a⟩, T', lv, e', w', hb, rfl⟩ (.inr ⟨140, t1, r, rfl, rfl, rfl, T, rfl, hA⟩))
  · intro _ T lv e' w' q hb
    refine WP.use1 (kind_bad hb 3) ?_
    refine WP.use1 htx0 ?_
    refine Rb.use (take_b kAs) (hb.die (lv' := lv)) ?_
    intro _ T lv e' w' hb
    refine Rb.use (kind_b 1) hb ?_
    intro w T lv e' w' hb
    refine Rb.use (take_b (mkB [59])) hb ?_
    intro _ T lv e' w' hb
    exact WP.leaf ⟨⟨txtZ .empty, w.1, t.a⟩, T, lv, e', w', hb, rfl⟩
theorem of_a {α : Type} {k : Nat} (f : ByteArray × Nat → Gr α) (t : Tk) (r : List Tk) : runG ((gOf k).bind f) (t :: r) = runG ((gOf k).bind fun w => f (w.1, t.a)) (t :: r) := by
  show runG ((match decide (t.k = k) with | true => .next (.ret (t.s, t.a)) | false => .err 140 : Gr (ByteArray × Nat)).bind f) (t :: r) = runG ((match decide (t.k = k) with | true => .next (.ret (t.s, t.a)) | false => .err 140 : Gr (ByteArray × Nat)).bind fun w => f (w.1, t.a)) (t :: r)
  cases decide (t.k = k) <;> rfl
theorem const_f {n : Nat} (hn : n ≤ 1000000000) (ex : Bool) : Rf X 65 [.box base 0, vB ex] (0 : Nat) (0 : Nat) (pConst n ex) rC := by
  intro E T t r hA hne
  refine DoesQ.of Tryz.func65 (by kernel_rfl) ?_
  have e1 : pConst n ex = (gMust kConst).bind fun _ => (gOf 1).bind fun w => (gMust (mkB [61])).bind fun _ => (pLine n 0 0).bind fun e => (gMust (mkB [59])).bind fun _ => .ret ⟨w.1, ex, w.2, e⟩ := rfl
  rw [e1] at hne ⊢
  refine Rf.use (take_f kConst _) hA hne ?_ ?_
  · intro _ T t1 r hA hne
    rw [of_a] at hne ⊢
    refine WP.use1 (lk_ok hA _) ?_
    refine Rf.use (kind_f 1 (by omega) _) hA hne ?_ ?_
    · intro w T t2 r hA hne
      refine Rf.use (take_f (mkB [61]) _) hA hne ?_ ?_
      · intro _ T t3 r hA hne
        refine Rf.use (expr_f hn 0 (by omega)) hA hne ?_ ?_
        · intro e T t4 r hA hne
          refine Rf.use (take_f (mkB [59]) _) hA must_ret_out ?_ ?_
          · intro _ T t5 r hA _; exact WP.leaf ⟨T, t5, r, rfl, hA, rfl⟩
          · intro _ T lv e' w' q hb; exact WP.leaf ⟨⟨w.1, ex, t1.a, e⟩, T, lv, e', w', hb, rfl⟩
        · intro e T lv e' w' q hb
          refine Rb.use (take_b (mkB [59])) hb ?_
          intro _ T lv e' w' hb
          exact WP.leaf ⟨⟨w.1, ex, t1.a, e⟩, T, lv, e', w', hb, rfl⟩
      · intro _ T lv e' w' q hb
        refine Rb.use expr_b hb ?_
        intro e T lv e' w' hb
        refine Rb.use (take_b (mkB [59])) hb ?_
        intro _ T lv e' w' hb
        exact WP.leaf ⟨⟨w.1, ex, t1.a, e⟩, T, lv, e', w', hb, rfl⟩
    · intro w T lv e' w' q hb
      refine Rb.use (take_b (mkB [61])) hb ?_
      intro _ T lv e' w' hb
      refine Rb.use expr_b hb ?_
      intro e T lv e' w' hb
      refine Rb.use (take_b (mkB [59])) hb ?_
      intro _ T lv e' w' hb
      exact WP.leaf ⟨⟨w.1, ex, t1.a, e⟩, T, lv, e', w', hb, rfl⟩
  · intro _ T lv e' w' q hb
    refine WP.use1 (lk_bad hb) ?_
    refine Rb.use (kind_b 1) (hb.die (lv' := lv)) ?_
    intro w T lv e' w' hb
    refine Rb.use (take_b (mkB [61])) hb ?_
    intro _ T lv e' w' hb
    refine Rb.use expr_b hb ?_
    intro e T lv e' w' hb
    refine Rb.use (take_b (mkB [59])) hb ?_
    intro _ T lv e' w' hb
    exact WP.leaf ⟨⟨w.1, ex, 0, e⟩, T, lv, e', w', hb, rfl⟩
end Go.Proofs.YtacfbgfphkfobaaGreatDoor.Id
/-! ## PaRefK -/
namespace Go.Proofs.YtacfbgfphkfobaaGreatDoor.Id
open Go
set_option linter.unusedVariables false
set_option linter.unusedSimpArgs false
set_option maxRecDepth 100000
set_option maxHeartbeats 4000000
variable {X : Given}
abbrev rF (f : TFunc) (c : List V) : Out := .ret (.agg (fD f)) [c]
theorem params_close {β : Type} {F : List TParam → Gr β} {n : Nat} {l : List TParam} {t : Tk} {r : List Tk} (h : isT t (mkB [44]) = false) (hl : 0 < l.length) : runG ((pParams (n + 1) l).bind F) (t :: r) = runG ((gMust (mkB [41])).bind fun _ => F l) (t :: r) := by
  have e1 : runG ((pParams (n + 1) l).bind F) (t :: r) = runG ((match isT t (mkB [41]) with
      | true => .next (.ret l)
      | false => (gSep l.length).bind fun _ => pParam.bind fun x => pParams n (l ++ [x]) : Gr (List TParam)).bind F) (t :: r) := rfl
  have e2 : runG ((gMust (mkB [41])).bind fun _ => F l) (t :: r) = runG ((match isT t (mkB [41]) with | true => .next (.ret t.a) | false => .err 140 : Gr Nat).bind fun _ => F l) (t :: r) := rfl
  rw [e1, e2]
  cases isT t (mkB [41]) with
  | true => rfl
  | false =>
    simp only [gSep_pos hl]
    show runG (((match isT t (mkB [44]) with | true => .next (.ret t.a) | false => .err 140 : Gr Nat).bind _).bind F) (t :: r) = _
    rw [h]; rfl
theorem params_more {β : Type} {F : List TParam → Gr β} {n : Nat} {l : List TParam} {t : Tk} {r : List Tk} (h : isT t (mkB [44]) = true) (hl : 0 < l.length) : runG ((pParams (n + 1) l).bind F) (t :: r) = runL ((pParam.bind fun x => pParams n (l ++ [x])).bind F) r := by
  have h1 : isT t (mkB [41]) = false := by
    unfold isT at h ⊢
    simp at h
    rw [h.2]; first | (simp; done) | (simp; decide)
  have e1 : runG ((pParams (n + 1) l).bind F) (t :: r) = runG ((match isT t (mkB [41]) with
      | true => .next (.ret l)
      | false => (gSep l.length).bind fun _ => pParam.bind fun x => pParams n (l ++ [x]) : Gr (List TParam)).bind F) (t :: r) := rfl
  rw [e1, h1]
  simp only [gSep_pos hl]
  show runG (((match isT t (mkB [44]) with | true => .next (.ret t.a) | false => .err 140 : Gr Nat).bind _).bind F) (t :: r) = _
  rw [h, ← run_next]; rfl
abbrev fnSt (E : REnv) (c : List V) (nm : ByteArray) (ex : Bool) (a : Int) (l : List TParam) (b : V) : St := ⟨[(0, .box base 0), (4, .box 4 0), (5, .box 5 0), (6, b)], [(base, c), (4, fc .empty false 0 []), (5, fc nm ex a l)]⟩
/-- a function's box, before it has a name -/
abbrev f0c : List V := [vS .empty, vB false, vI 0, .d (.nil 2), vI 0, .d (.nil 16)]
abbrev fnEx (c : List V) (nm : ByteArray) (ex : Bool) (a : Int) (l : List TParam) : St := ⟨[(0, .box base 0), (4, .box 4 0), (5, .box 5 0)], [(base, c), (4, f0c), (5, fc nm ex a l)]⟩
abbrev fnIn (c : List V) (nm : ByteArray) (ex : Bool) (a : Int) (l : List TParam) (b : Bool) : St := ⟨[(0, .box base 0), (4, .box 4 0), (5, .box 5 0), (6, vB b)], [(base, c), (4, f0c), (5, fc nm ex a l)]⟩
theorem params_loopR {β : Type} (F : List TParam → Gr β) (nm : ByteArray) (ex : Bool) (a : Int) (d : Nat) (E : REnv) (K : Ex → St → Id.T Out) (P : Rs β → Out → Prop)
    (hE : ∀ T t r l, RAt E T t r → runG ((gMust (mkB [41])).bind fun _ => F l) (t :: r) ≠ .out → WP X (K (.exit 0) (fnEx (rp E (T : Nat) d 0 0) nm ex a l)) (P (runG ((gMust (mkB [41])).bind fun _ => F l) (t :: r))))
    (hEB : ∀ l T lv e w q res, RB E T lv e w q → IsBad E res q → WP X (K (.exit 0) (fnEx (rp E T lv e w) nm ex a l)) (P res)) :
    ∀ n l T ts, RS E T ts → n + l.length ≤ 1000000000 → runL ((pParam.bind fun x => pParams n (l ++ [x])).bind F) ts ≠ .out → ∀ σ : St, getT σ.t 0 = .box base 0 → getT σ.t 4 = .box 4 0 → getT σ.t 5 = .box 5 0 → WkV σ (vB true) (getT σ.t 6) → getB σ.b base = some (rp E (T : Nat) d 0 0) → getB σ.b 4 = some f0c → (∃ us, getB σ.b 5 = some us ∧ WkVs σ (fc nm ex a l) us) →
      WP X (.loop (lp Tryz.f66 0) σ K) (P (runL ((pParam.bind fun x => pParams n (l ++ [x])).bind F) ts)) := by
  intro n
  induction n using Nat.strongRecOn with
  | ind n ih =>
    intro l T ts hS hl hne σ g0 g4 g5 g6 gb gb4 gb5
    refine WP.round (fnIn (rp E (T : Nat) d 0 0) nm ex a l true) ⟨⟨.inl g0.symm, .inl g4.symm, .inl g5.symm, g6, trivial⟩, ⟨WkB.box gb, WkB.box gb4, gb5, trivial⟩⟩ ?_
    have e0 : ((pParam.bind fun x => pParams n (l ++ [x])).bind F) = (gOf 1).bind fun w => (gMust (mkB [58])).bind fun _ => pType.bind fun t => (pParams n (l ++ [⟨w.1, t⟩])).bind F := by
      unfold pParam
      rw [gr_assoc, gr_assoc]; congr 1; funext w
      rw [gr_assoc, gr_assoc]; congr 1
    rw [e0] at hne ⊢
    refine WP.iteT rfl ?_
    refine WP.use1 (fine_ok _ _) ?_
    refine WP.iteT rfl ?_
    have hlen : (psD l).length = l.length := by simp [psD]
    have hw : ∀ (w : ByteArray) (z : Int), V.own (5, 3) 2 (psD l ++ [[.str w, cZ z]]) = .own (5, 3) 2 (psD (l ++ [⟨w, z⟩])) := fun w z => by
      rw [show psD (l ++ [⟨w, z⟩]) = psD l ++ psD [⟨w, z⟩] from List.map_append]; rfl
    have hbadend : ∀ (w : ByteArray × Nat) (z : Int) (T lv e w' : Int) q res', RB E T lv e w' q → IsBad E res' q → ∀ σ : St, getT σ.t 0 = .box base 0 → getT σ.t 4 = .box 4 0 → getT σ.t 5 = .box 5 0 → getT σ.t 6 = vB false → getB σ.b base = some (rp E T lv e w') → getB σ.b 4 = some f0c → getB σ.b 5 = some (fc nm ex a (l ++ [⟨w.1, z⟩])) → WP X (.loop (lp Tryz.f66 0) σ K) (P res') := fun w z T lv e w' q res' hb hr σ g0 g4 g5 g6 gb gb4 gb5 => by
      refine WP.round (fnIn (rp E T lv e w') nm ex a (l ++ [⟨w.1, z⟩]) false) ⟨⟨.inl g0.symm, .inl g4.symm, .inl g5.symm, .inl g6.symm, trivial⟩, ⟨WkB.box gb, WkB.box gb4, WkB.box gb5, trivial⟩⟩ ?_
      refine WP.iteF rfl ?_
      exact WP.leaf ⟨fnEx (rp E T lv e w') nm ex a (l ++ [⟨w.1, z⟩]), ⟨⟨.inl rfl, .inl rfl, .inl rfl, trivial⟩, ⟨WkB.box rfl, WkB.box rfl, WkB.box rfl, trivial⟩⟩, hEB _ _ _ _ _ _ _ hb hr⟩
    refine Rf.useS (P := fun res => Round X _ K (P res)) (kind_f 1 (by omega) d) (kind_b 1) hS hne ?_ ?_
    · intro w T t r hA hne
      refine Rf.useP (P := fun res => Round X _ K (P res)) (take_f (mkB [58]) d) hA hne ?_ ?_
      · intro _ T t r hA hne
        refine Rf.useP (P := fun res => Round X _ K (P res)) (typ_f d) hA hne ?_ ?_
        · intro z T t r hA hne
          refine WP.asrt (show ((psD l).length + 1) * 24 ≤ 140737488355328 by rw [hlen]; omega) ?_
          have hlen' : 0 < (l ++ [(⟨w.1, z⟩ : TParam)]).length := by simp
          cases n with
          | zero => exact absurd rfl hne
          | succ n =>
            refine WP.use1 (comma_ok hA d) ?_
            cases hc : isT t (mkB [44]) with
            | true =>
              rw [params_more hc hlen'] at hne ⊢
              refine WP.leaf ?_
              refine ih n (Nat.lt_succ_self n) (l ++ [⟨w.1, z⟩]) (T + 1) r (hA.rs (isT_k hc)) (by rw [List.length_append]; simp; omega) hne _ ?_ ?_ ?_ ?_ ?_ ?_ ?_
              · rfl
              · rfl
              · rfl
              · exact .inl rfl
              · rfl
              · rfl
              · exact ⟨_, rfl, ⟨.inl rfl, .inl rfl, .inl rfl, .inl (hw _ _).symm, .inl rfl, .inl rfl, trivial⟩⟩
            | false =>
              rw [params_close hc hlen'] at hne ⊢
              refine WP.leaf ?_
              refine WP.round (fnIn (rp E (T : Nat) d 0 0) nm ex a (l ++ [⟨w.1, z⟩]) false) ⟨⟨.inl rfl, .inl rfl, .inl rfl, .inl rfl, trivial⟩, ⟨WkB.box rfl, WkB.box rfl, ⟨_, rfl, ⟨.inl rfl, .inl rfl, .inl rfl, .inl (hw _ _).symm, .inl rfl, .inl rfl, trivial⟩⟩, trivial⟩⟩ ?_
              refine WP.iteF rfl ?_
              exact WP.leaf ⟨fnEx (rp E (T : Nat) d 0 0) nm ex a (l ++ [⟨w.1, z⟩]), ⟨⟨.inl rfl, .inl rfl, .inl rfl, trivial⟩, ⟨WkB.box rfl, WkB.box rfl, WkB.box rfl, trivial⟩⟩, hE T t r _ hA hne⟩
        · intro z T lv e' w' q res hb hr
          refine WP.asrt (show ((psD l).length + 1) * 24 ≤ 140737488355328 by rw [hlen]; omega) ?_
          refine WP.use1 (comma_bad hb) ?_
          refine WP.leaf ?_
          exact hbadend w z _ _ _ _ q res hb.die hr _ rfl rfl rfl rfl rfl rfl (by show some [_, _, _, V.own (5, 3) 2 (psD l ++ [[.str w.1, cZ z]]), _, _] = some [_, _, _, V.own (5, 3) 2 (psD (l ++ [⟨w.1, z⟩])), _, _]; rw [hw])
      · intro _ T lv e' w' q res hb hr
        refine Rb.use typ_b hb ?_
        intro z T lv e' w' hb
        refine WP.asrt (show ((psD l).length + 1) * 24 ≤ 140737488355328 by rw [hlen]; omega) ?_
        refine WP.use1 (comma_bad hb) ?_
        refine WP.leaf ?_
        exact hbadend w z _ _ _ _ q res hb.die hr _ rfl rfl rfl rfl rfl rfl (by show some [_, _, _, V.own (5, 3) 2 (psD l ++ [[.str w.1, cZ z]]), _, _] = some [_, _, _, V.own (5, 3) 2 (psD (l ++ [⟨w.1, z⟩])), _, _]; rw [hw])
    · intro w T lv e' w' q res hb hr
      refine Rb.use (take_b (mkB [58])) hb ?_
      intro _ T lv e' w' hb
      refine Rb.use typ_b hb ?_
      intro z T lv e' w' hb
      refine WP.asrt (show ((psD l).length + 1) * 24 ≤ 140737488355328 by rw [hlen]; omega) ?_
      refine WP.use1 (comma_bad hb) ?_
      refine WP.leaf ?_
      exact hbadend w z _ _ _ _ q res hb.die hr _ rfl rfl rfl rfl rfl rfl (by show some [_, _, _, V.own (5, 3) 2 (psD l ++ [[.str w.1, cZ z]]), _, _] = some [_, _, _, V.own (5, 3) 2 (psD (l ++ [⟨w.1, z⟩])), _, _]; rw [hw])
theorem params_any {β : Type} {F : List TParam → Gr β} {nm : ByteArray} {ex : Bool} {a : Int} {d : Nat} {E : REnv} {K : Ex → St → Id.T Out} {P : Rs β → Out → Prop} {n T : Nat} {t : Tk} {r : List Tk} {σ : St} (hn : n ≤ 1000000000) (hA : RAt E T t r) (hne : runG ((pParams n []).bind F) (t :: r) ≠ .out)
    (hE : ∀ T t r l, RAt E T t r → runG ((gMust (mkB [41])).bind fun _ => F l) (t :: r) ≠ .out → WP X (K (.exit 0) (fnEx (rp E (T : Nat) d 0 0) nm ex a l)) (P (runG ((gMust (mkB [41])).bind fun _ => F l) (t :: r))))
    (hEB : ∀ l T lv e w q res, RB E T lv e w q → IsBad E res q → WP X (K (.exit 0) (fnEx (rp E T lv e w) nm ex a l)) (P res))
    (g0 : getT σ.t 0 = .box base 0) (g4 : getT σ.t 4 = .box 4 0) (g5 : getT σ.t 5 = .box 5 0) (g6 : getT σ.t 6 = vB (!isT t (mkB [41]))) (gb : getB σ.b base = some (rp E (T : Nat) d 0 0)) (gb4 : getB σ.b 4 = some f0c) (gb5 : ∃ us, getB σ.b 5 = some us ∧ WkVs σ (fc nm ex a []) us) :
    WP X (.loop (lp Tryz.f66 0) σ K) (P (runG ((pParams n []).bind F) (t :: r))) := by
  cases n with
  | zero => exact absurd rfl hne
  | succ n =>
    cases h1 : isT t (mkB [41]) with
    | true =>
      have e3 : runG ((pParams (n + 1) []).bind F) (t :: r) = runG ((gMust (mkB [41])).bind fun _ => F []) (t :: r) := by
        show runG ((match isT t (mkB [41]) with
          | true => .next (.ret [])
          | false => (gSep 0).bind fun _ => pParam.bind fun x => pParams n ([] ++ [x]) : Gr (List TParam)).bind F) (t :: r) = runG ((match isT t (mkB [41]) with | true => .next (.ret t.a) | false => .err 140 : Gr Nat).bind _) (t :: r)
        rw [h1]; rfl
      rw [e3] at hne ⊢
      rw [h1] at g6
      refine WP.round (fnIn (rp E (T : Nat) d 0 0) nm ex a [] false) ⟨⟨.inl g0.symm, .inl g4.symm, .inl g5.symm, .inl g6.symm, trivial⟩, ⟨WkB.box gb, WkB.box gb4, gb5, trivial⟩⟩ ?_
      refine WP.iteF rfl ?_
      exact WP.leaf ⟨fnEx (rp E (T : Nat) d 0 0) nm ex a [], ⟨⟨.inl rfl, .inl rfl, .inl rfl, trivial⟩, ⟨WkB.box rfl, WkB.box rfl, WkB.box rfl, trivial⟩⟩, hE T t r [] hA hne⟩
    | false =>
      have e3 : runG ((pParams (n + 1) []).bind F) (t :: r) = runL ((pParam.bind fun x => pParams n ([] ++ [x])).bind F) (t :: r) := by
        show runG ((match isT t (mkB [41]) with
          | true => .next (.ret [])
          | false => (gSep 0).bind fun _ => pParam.bind fun x => pParams n ([] ++ [x]) : Gr (List TParam)).bind F) (t :: r) = _
        rw [h1]; rfl
      rw [e3] at hne ⊢
      rw [h1] at g6
      exact params_loopR F nm ex a d E K P hE hEB n [] T (t :: r) hA (by simp; omega) hne σ g0 g4 g5 (.inl g6.symm) gb gb4 gb5
theorem func_f {n : Nat} (hn : n ≤ 1000000000) (ex : Bool) : Rf X 66 [.box base 0, vB ex] (0 : Nat) (0 : Nat) (pFunc n ex) rF := by
  intro E T t r hA hne
  refine DoesQ.of Tryz.func66 (by kernel_rfl) ?_
  have e1 : pFunc n ex = (gMust kFunc).bind fun _ => (gOf 1).bind fun w => (gOpen (mkB [40]) 0).bind fun _ => (pParams n []).bind fun ps => (gIs (mkB [58])).bind fun
    | true => .next (pType.bind fun t => (pBlock n 0).bind fun b => .ret ⟨w.1, ex, w.2, ps, t, b⟩)
    | false => (pBlock n 0).bind fun b => .ret ⟨w.1, ex, w.2, ps, 0, b⟩ := rfl
  rw [e1] at hne ⊢
  have hB := block_f (X := X) hn 0 (by omega)
  refine Rf.use (take_f kFunc _) hA hne ?_ ?_
  · intro _ T t1 r hA hne
    rw [of_a] at hne ⊢
    refine WP.use1 (lk_ok hA _) ?_
    refine Rf.use (kind_f 1 (by omega) _) hA hne ?_ ?_
    · intro w T t2 r hA hne
      refine Rf.open (d := 0) (P := RPost E (0 : Nat) rF) (by omega) hA hne ?_ ?_
      · intro _ T t3 r hA hne
        refine WP.use1 (fine_ok _ _) ?_
        refine WP.iteT rfl ?_
        refine WP.use1 (is_ok hA _ (mkB [41])) ?_
        refine params_any (P := RPost E (0 : Nat) rF) (d := 1) (nm := w.1) (ex := ex) (a := t1.a) hn hA hne ?_ ?_ rfl rfl rfl rfl rfl rfl ⟨_, rfl, ⟨.inl rfl, .inl rfl, .inl rfl, .inr (.inr ⟨(5, 3), 2, 2, rfl, rfl, rfl, rfl⟩), .inl rfl, .inl rfl, trivial⟩⟩
        · intro T t r ps hA hne
          refine Rf.use (closes_f (mkB [41]) 0 (by omega)) hA hne ?_ ?_
          · intro _ T t r hA hne
            rw [runG_is] at hne ⊢
            refine WP.use1 (is_ok hA _ (mkB [58])) ?_
            cases h2 : isT t (mkB [58]) with
            | true =>
              rw [h2] at hne
              dsimp only at hne ⊢
              refine WP.iteT rfl ?_
              refine Rf.useN (P := RPost E (0 : Nat) rF) (typ_f _) typ_b hA (isT_k h2) hne ?_ ?_
              · intro z T t r hA hne
                refine Rf.use hB hA hne ?_ ?_
                · intro b T t r hA _; exact WP.leaf ⟨T, t, r, rfl, hA, rfl⟩
                · intro b T lv e' w' q hb; exact WP.leaf ⟨⟨w.1, ex, t1.a, ps, z, b⟩, T, lv, e', w', hb, rfl⟩
              · intro z T lv e' w' q res hb hr
                refine Rb.use block_b hb ?_
                intro b T lv e' w' hb
                exact WP.leaf (BadO.post ⟨⟨w.1, ex, t1.a, ps, z, b⟩, T, lv, e', w', hb, rfl⟩ hr)
            | false =>
              rw [h2] at hne
              dsimp only at hne ⊢
              refine WP.iteF rfl ?_
              refine Rf.use hB hA hne ?_ ?_
              · intro b T t r hA _; exact WP.leaf ⟨T, t, r, rfl, hA, rfl⟩
              · intro b T lv e' w' q hb; exact WP.leaf ⟨⟨w.1, ex, t1.a, ps, 0, b⟩, T, lv, e', w', hb, rfl⟩
          · intro _ T lv e' w' q hb
            refine WP.use1 (is_bad hb (mkB [58])) ?_
            refine WP.iteF rfl ?_
            refine Rb.use block_b (hb.die (lv' := lv)) ?_
            intro b T lv e' w' hb
            exact WP.leaf (⟨⟨w.1, ex, t1.a, ps, 0, b⟩, T, lv, e', w', hb, rfl⟩)
        · intro ps T lv e' w' q res hb hr
          refine Rb.use (closes_b (mkB [41])) hb ?_
          intro _ T lv e' w' hb
          refine WP.use1 (is_bad hb (mkB [58])) ?_
          refine WP.iteF rfl ?_
          refine Rb.use block_b (hb.die (lv' := lv)) ?_
          intro b T lv e' w' hb
          exact WP.leaf (BadO.post ⟨⟨w.1, ex, t1.a, ps, 0, b⟩, T, lv, e', w', hb, rfl⟩ hr)
      · intro T lv e' w' q res hb hr
        rcases fine_b hb with ⟨hne, hf⟩ | ⟨rfl, rfl, hf⟩
        · refine WP.use1 hf ?_
          refine WP.iteF rfl ?_
          refine WP.round ⟨[(0, .box base 0), (4, .box 4 0), (5, .box 5 0), (6, .lit false)], [(base, rp E T lv e' w'), (4, f0c), (5, fc w.1 ex t1.a [])]⟩ ⟨⟨.inl rfl, .inl rfl, .inl rfl, .inl rfl, trivial⟩, ⟨WkB.box rfl, WkB.box rfl, ⟨_, rfl, ⟨.inl rfl, .inl rfl, .inl rfl, .inr (.inr ⟨(5, 3), 2, 2, rfl, rfl, rfl, rfl⟩), .inl rfl, .inl rfl, trivial⟩⟩, trivial⟩⟩ ?_
          refine WP.leaf ⟨fnEx (rp E T lv e' w') w.1 ex t1.a [], ⟨⟨.inl rfl, .inl rfl, .inl rfl, trivial⟩, ⟨WkB.box rfl, WkB.box rfl, WkB.box rfl, trivial⟩⟩, ?_⟩
          refine Rb.use (closes_b (mkB [41])) hb ?_
          intro _ T lv e' w' hb
          refine WP.use1 (is_bad hb (mkB [58])) ?_
          refine WP.iteF rfl ?_
          refine Rb.use block_b (hb.die (lv' := lv)) ?_
          intro b T lv e' w' hb
          exact WP.leaf (BadO.post ⟨⟨w.1, ex, t1.a, [], 0, b⟩, T, lv, e', w', hb, rfl⟩ hr)
        · refine WP.use1 hf ?_
          refine WP.iteT rfl ?_
          refine WP.use1 (is_bad hb (mkB [41])) ?_
          refine WP.round (fnIn (rp E T lv (q.c : Nat) (q.a : Nat)) w.1 ex t1.a [] true) ⟨⟨.inl rfl, .inl rfl, .inl rfl, .inl rfl, trivial⟩, ⟨WkB.box rfl, WkB.box rfl, ⟨_, rfl, ⟨.inl rfl, .inl rfl, .inl rfl, .inr (.inr ⟨(5, 3), 2, 2, rfl, rfl, rfl, rfl⟩), .inl rfl, .inl rfl, trivial⟩⟩, trivial⟩⟩ ?_
          refine WP.iteT rfl ?_
          refine WP.use1 (fine_dead (by have := hb.nz; omega)) ?_
          refine WP.iteF rfl ?_
          refine WP.leaf ⟨fnEx (rp E T lv (q.c : Nat) (q.a : Nat)) w.1 ex t1.a [], ⟨⟨.inl rfl, .inl rfl, .inl rfl, trivial⟩, ⟨WkB.box rfl, WkB.box rfl, WkB.box rfl, trivial⟩⟩, ?_⟩
          refine Rb.use (closes_b (mkB [41])) (hb.die (lv' := lv)) ?_
          intro _ T lv e' w' hb
          refine WP.use1 (is_bad hb (mkB [58])) ?_
          refine WP.iteF rfl ?_
          refine Rb.use block_b (hb.die (lv' := lv)) ?_
          intro b T lv e' w' hb
          exact WP.leaf (BadO.post ⟨⟨w.1, ex, t1.a, [], 0, b⟩, T, lv, e', w', hb, rfl⟩ hr)
    · intro w T lv e' w' q hb
      refine Rb.use (opens_b (mkB [40])) hb ?_
      intro _ T lv e' w' hb
      rcases fine_b hb with ⟨hne, hf⟩ | ⟨rfl, rfl, hf⟩
      · refine WP.use1 hf ?_
        refine WP.iteF rfl ?_
        refine WP.round ⟨[(0, .box base 0), (4, .box 4 0), (5, .box 5 0), (6, .lit false)], [(base, rp E T lv e' w'), (4, f0c), (5, fc w.1 ex t1.a [])]⟩ ⟨⟨.inl rfl, .inl rfl, .inl rfl, .inl rfl, trivial⟩, ⟨WkB.box rfl, WkB.box rfl, ⟨_, rfl, ⟨.inl rfl, .inl rfl, .inl rfl, .inr (.inr ⟨(5, 3), 2, 2, rfl, rfl, rfl, rfl⟩), .inl rfl, .inl rfl, trivial⟩⟩, trivial⟩⟩ ?_
        refine WP.leaf ⟨fnEx (rp E T lv e' w') w.1 ex t1.a [], ⟨⟨.inl rfl, .inl rfl, .inl rfl, trivial⟩, ⟨WkB.box rfl, WkB.box rfl, WkB.box rfl, trivial⟩⟩, ?_⟩
        refine Rb.use (closes_b (mkB [41])) hb ?_
        intro _ T lv e' w' hb
        refine WP.use1 (is_bad hb (mkB [58])) ?_
        refine WP.iteF rfl ?_
        refine Rb.use block_b (hb.die (lv' := lv)) ?_
        intro b T lv e' w' hb
        exact WP.leaf (⟨⟨w.1, ex, t1.a, [], 0, b⟩, T, lv, e', w', hb, rfl⟩)
      · refine WP.use1 hf ?_
        refine WP.iteT rfl ?_
        refine WP.use1 (is_bad hb (mkB [41])) ?_
        refine WP.round (fnIn (rp E T lv (q.c : Nat) (q.a : Nat)) w.1 ex t1.a [] true) ⟨⟨.inl rfl, .inl rfl, .inl rfl, .inl rfl, trivial⟩, ⟨WkB.box rfl, WkB.box rfl, ⟨_, rfl, ⟨.inl rfl, .inl rfl, .inl rfl, .inr (.inr ⟨(5, 3), 2, 2, rfl, rfl, rfl, rfl⟩), .inl rfl, .inl rfl, trivial⟩⟩, trivial⟩⟩ ?_
        refine WP.iteT rfl ?_
        refine WP.use1 (fine_dead (by have := hb.nz; omega)) ?_
        refine WP.iteF rfl ?_
        refine WP.leaf ⟨fnEx (rp E T lv (q.c : Nat) (q.a : Nat)) w.1 ex t1.a [], ⟨⟨.inl rfl, .inl rfl, .inl rfl, trivial⟩, ⟨WkB.box rfl, WkB.box rfl, WkB.box rfl, trivial⟩⟩, ?_⟩
        refine Rb.use (closes_b (mkB [41])) (hb.die (lv' := lv)) ?_
        intro _ T lv e' w' hb
        refine WP.use1 (is_bad hb (mkB [58])) ?_
        refine WP.iteF rfl ?_
        refine Rb.use block_b (hb.die (lv' := lv)) ?_
        intro b T lv e' w' hb
        exact WP.leaf (⟨⟨w.1, ex, t1.a, [], 0, b⟩, T, lv, e', w', hb, rfl⟩)
  · intro _ T lv e' w' q hb
    refine WP.use1 (lk_bad hb) ?_
    refine Rb.use (kind_b 1) (hb.die (lv' := lv)) ?_
    intro w T lv e' w' hb
    refine Rb.use (opens_b (mkB [40])) hb ?_
    intro _ T lv e' w' hb
    rcases fine_b hb with ⟨hne, hf⟩ | ⟨rfl, rfl, hf⟩
    · refine WP.use1 hf ?_
      refine WP.iteF rfl ?_
      refine WP.round ⟨[(0, .box base 0), (4, .box 4 0), (5, .box 5 0), (6, .lit false)], [(base, rp E T lv e' w'), (4, f0c), (5, fc w.1 ex 0 [])]⟩ ⟨⟨.inl rfl, .inl rfl, .inl rfl, .inl rfl, trivial⟩, ⟨WkB.box rfl, WkB.box rfl, ⟨_, rfl, ⟨.inl rfl, .inl rfl, .inl rfl, .inr (.inr ⟨(5, 3), 2, 2, rfl, rfl, rfl, rfl⟩), .inl rfl, .inl rfl, trivial⟩⟩, trivial⟩⟩ ?_
      refine WP.leaf ⟨fnEx (rp E T lv e' w') w.1 ex 0 [], ⟨⟨.inl rfl, .inl rfl, .inl rfl, trivial⟩, ⟨WkB.box rfl, WkB.box rfl, WkB.box rfl, trivial⟩⟩, ?_⟩
      refine Rb.use (closes_b (mkB [41])) hb ?_
      intro _ T lv e' w' hb
      refine WP.use1 (is_bad hb (mkB [58])) ?_
      refine WP.iteF rfl ?_
      refine Rb.use block_b (hb.die (lv' := lv)) ?_
      intro b T lv e' w' hb
      exact WP.leaf (⟨⟨w.1, ex, 0, [], 0, b⟩, T, lv, e', w', hb, rfl⟩)
    · refine WP.use1 hf ?_
      refine WP.iteT rfl ?_
      refine WP.use1 (is_bad hb (mkB [41])) ?_
      refine WP.round (fnIn (rp E T lv (q.c : Nat) (q.a : Nat)) w.1 ex 0 [] true) ⟨⟨.inl rfl, .inl rfl, .inl rfl, .inl rfl, trivial⟩, ⟨WkB.box rfl, WkB.box rfl, ⟨_, rfl, ⟨.inl rfl, .inl rfl, .inl rfl, .inr (.inr ⟨(5, 3), 2, 2, rfl, rfl, rfl, rfl⟩), .inl rfl, .inl rfl, trivial⟩⟩, trivial⟩⟩ ?_
      refine WP.iteT rfl ?_
      refine WP.use1 (fine_dead (by have := hb.nz; omega)) ?_
      refine WP.iteF rfl ?_
      refine WP.leaf ⟨fnEx (rp E T lv (q.c : Nat) (q.a : Nat)) w.1 ex 0 [], ⟨⟨.inl rfl, .inl rfl, .inl rfl, trivial⟩, ⟨WkB.box rfl, WkB.box rfl, WkB.box rfl, trivial⟩⟩, ?_⟩
      refine Rb.use (closes_b (mkB [41])) (hb.die (lv' := lv)) ?_
      intro _ T lv e' w' hb
      refine WP.use1 (is_bad hb (mkB [58])) ?_
      refine WP.iteF rfl ?_
      refine Rb.use block_b (hb.die (lv' := lv)) ?_
      intro b T lv e' w' hb
      exact WP.leaf (⟨⟨w.1, ex, 0, [], 0, b⟩, T, lv, e', w', hb, rfl⟩)
end Go.Proofs.YtacfbgfphkfobaaGreatDoor.Id
