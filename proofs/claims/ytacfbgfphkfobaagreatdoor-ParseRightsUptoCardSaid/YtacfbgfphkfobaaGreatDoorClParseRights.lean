/- For arguments of bulk at most 1,048,576 the law ParseRights answers true, and its arguments read behind the call as they read before.
   Conditions: the arguments (and the package variables that the reading takes) are together of bulk at most 1,048,576 ('Upto'); the listed package-level variables hold what the program's text lays (the card ties them). -/
import Derived.Test.YtacfbgfphkfobaaGreatDoorBunParseRightsc
import Derived.Test.YtacfbgfphkfobaaGreatDoorProg
import Derived.Below
import Derived.RowKit
import Derived.Lib.LaidTab
import Derived.Lib.ItoaMem
import Derived.Lib.LaidU8
import Derived.Stop.LaidErr
import Derived.Test.YtacfbgfphkfobaaGreatDoorRows
import Derived.DataReads
import Derived.ChangeArms
import Derived.Shelf.Strconv.Itoa4
import Derived.Shelf.Strconv.ParseIntPublic10
import Derived.Deep.Draws
import Derived.Deep.AppendLies
import Derived.Maps.AppendAt
import Derived.OwnWalk
import Derived.Laws.BytesArg
import Derived.Laws.MakeOwn
import Derived.Laws.OwnMore
import Derived.Deep.OwnRows
import Derived.Tactics
import Derived.Lib.ConvBytes
import Derived.Laws.Slices
import Derived.WalkKit
import Derived.KernelRfl
import Derived.RowKit3
import Derived.Deep.LoopGhost
import Derived.Deep.QuietTactic
import Derived.BigQuiet
import Derived.WideLaws
import Derived.Deep.DeepCutAuto
import Derived.Deep.CutBlock
import Derived.Deep.RegionHeld3
import Derived.Laws.Rows
import Derived.Lib.AppendStr
import Derived.ArgAppend
import Derived.Laws.IdiomCopy
import Derived.OrdersHeld
import Derived.Laws.BitsLemmas
import Derived.Lib.ParseIntB
import Derived.Lib.ItoaNum
import Derived.Lib.SmallJoins
import Derived.Lib.Strings
import Derived.Lib.Slices
import Derived.Lib.Walk
import Derived.Lib.Bytealg
import Derived.Test.YtacfbgfphkfobaaGreatDoorCards
import Derived.Test.YtacfbgfphkfobaaGreatDoorTie
import Derived.ProofKit
import Derived.OpenShut
import Derived.ShutString
import Derived.ChangeOld
import Derived.SizedLaws
import Derived.Deep.DeepHandedRow
/-! ## PaRightD -/
namespace Go.Proofs.YtacfbgfphkfobaaGreatDoor.Id
open Go
set_option linter.unusedVariables false
set_option linter.unusedSimpArgs false
variable {X : Given}
def noneN (k : Int) (of nm : ByteArray) (v : TVal) (op : Int) (n : Nat) : Bool := decide (k = 0) && (decide (of = .empty) && (decide (nm = .empty) && (noVal v && (decide (op = 0) && decide (n = 0)))))
def noneE (e : TExpr) : Bool := noneN e.k e.of e.nm e.v e.op e.kids.length
def rightSN (k : Int) (nm : ByteArray) (e : TExpr) (nb : Nat) (he : Bool) : Bool :=
  if k = 1 ∨ k = 2 then rightE e && (decide (nb = 0) && (!he && isWord nm))
  else if k = 3 then rightE e && decide (nm = .empty)
  else if k = 4 then rightE e && (decide (nm = .empty) && !he)
  else if k = 5 then (rightE e || noneE e) && (decide (nb = 0) && (!he && decide (nm = .empty)))
  else if k = 6 then rightE e && (decide (nb = 0) && (!he && decide (nm = .empty)))
  else if k = 7 then rightE e && (decide (nb = 0) && (!he && (decide (nm = .empty) && decide (e.k = 3))))
  else false
mutual
def rightS : TStmt → Bool
  | .mk k a nm e body els he => rightSs body && (rightSs els && ((he || decide (els.length = 0)) && rightSN k nm e body.length he))
def rightSs : List TStmt → Bool
  | [] => true
  | s :: r => rightS s && rightSs r
end
mutual
def smS : TStmt → Prop
  | .mk k a nm e body els he => nm.size ≤ 1048576 ∧ smE e ∧ body.length ≤ 1000000000 ∧ els.length ≤ 1000000000 ∧ smSs body ∧ smSs els
def smSs : List TStmt → Prop
  | [] => True
  | s :: r => smS s ∧ smSs r
end
theorem rightSs_app : ∀ a b : List TStmt, rightSs (a ++ b) = (rightSs a && rightSs b)
  | [], b => by simp [rightSs]
  | x :: r, b => by rw [List.cons_append, rightSs, rightSs, rightSs_app r b, Bool.and_assoc]
theorem smSs_mem : ∀ {l : List TStmt} {e : TStmt}, smSs l → e ∈ l → smS e
  | x :: r, e, h, he => by
    rcases List.mem_cons.1 he with rfl | he
    · exact h.1
    · exact smSs_mem h.2 he
theorem ssAll_get {l p r : List TStmt} {x : TStmt} (h : l = p ++ x :: r) : (ssAll l)[((p.length : Int)).toNat]? = some (sD x) := by
  subst h
  rw [ssAll_app, ssAll_cons]
  have : (ssAll p).length = p.length := ssAll_len p
  simp [this]
theorem nothing_does (e : TExpr) : Does X 122 [.agg (eD e)] [] (.ret (vB (noneE e)) []) := by
  obtain ⟨k, a, of, nm, v, op, kids⟩ := e
  have e1 := dsAll_len kids
  refine DoesQ.eq (DoesQ.of Tryz.func122 (by kernel_rfl) ?_)
  dsimp only [eD, TExpr.k, TExpr.a, TExpr.of, TExpr.nm, TExpr.v, TExpr.op, TExpr.kids]
  repeat' first | refine WP.iteT (by assumption) ?_ | refine WP.iteF (by assumption) ?_ | refine WP.ite (fun _ => ?_) (fun _ => ?_) | refine WP.leaf ?_ | refine WP.asrt (by kernel_rfl) ?_
  all_goals
    refine congrArg (fun b => Out.ret (vB b) []) ?_
    change _ = noneN k of nm v op kids.length
    unfold noneN noVal
    simp_all [bytes_empty]
theorem block_chk_loop (l : List TStmt) (hk : l.length ≤ 1000000000) (hD : ∀ x ∈ l, Does X 84 [.agg (sD x)] [] (.ret (vB (rightS x)) [])) (K : Ex → St → Id.T Out) (Q : Out → Prop)
    (hE : rightSs l = true → WP X (K (.exit 0) ⟨[], []⟩) Q) (hR : rightSs l = false → WP X (K .ret ⟨[(2, .lit false)], []⟩) Q) :
    ∀ (r p : List TStmt), l = p ++ r → rightSs p = true → ∀ σ : St, getT σ.t 5 = .d (.sl 16 (ssAll l)) → getT σ.t 6 = vI (ssAll l).length → getT σ.t 7 = vI p.length → WP X (.loop (lp Tryz.f49 0) σ K) Q
  | r, p, h, hp, σ, g5, g6, g7 => by
    refine WP.round ⟨[(5, .d (.sl 16 (ssAll l))), (6, vI (ssAll l).length), (7, vI p.length)], []⟩ ⟨⟨.inl g5.symm, .inl g6.symm, .inl g7.symm, trivial⟩, trivial⟩ ?_
    have hlen : l.length = p.length + r.length := by rw [h]; simp
    cases r with
    | nil =>
      refine WP.iteF (by rw [ssAll_len]; simp at hlen; simp; omega) ?_
      refine WP.leaf ⟨⟨[], []⟩, ⟨trivial, trivial⟩, hE (by rw [h]; simpa using hp)⟩
    | cons y r =>
      simp only [List.length_cons] at hlen
      refine WP.iteT (by rw [ssAll_len]; simp; omega) ?_
      refine WP.idx _ (by omega) (ssAll_get h) ?_
      refine WP.use1 (hD y (by rw [h]; simp)) ?_
      refine WP.ite (fun hx => ?_) (fun hx => ?_)
      · refine WP.leaf ⟨⟨[(2, .lit false)], []⟩, ⟨⟨.inl rfl, trivial⟩, trivial⟩, hR ?_⟩
        rw [h, rightSs_app, rightSs]
        simp at hx; simp [hx]
      · refine WP.leaf ?_
        refine block_chk_loop l hk hD K Q hE hR r (p ++ [y]) (by rw [h]; simp) (by rw [rightSs_app, hp]; simp at hx; simp [rightSs, hx]) _ rfl rfl ?_
        show vI (IntKind.i64.wrap ((p.length : Int) + 1)) = _
        rw [wrapI (by omega) (by omega)]; simp
theorem block_chk (l : List TStmt) (hk : l.length ≤ 1000000000) (hD : ∀ x ∈ l, Does X 84 [.agg (sD x)] [] (.ret (vB (rightS x)) [])) : Does X 49 [.d (.sl 16 (ssAll l))] [] (.ret (vB (rightSs l)) []) := by
  refine DoesQ.eq (DoesQ.of Tryz.func49 (by kernel_rfl) ?_)
  refine block_chk_loop l hk hD _ _ ?_ ?_ l [] rfl rfl _ rfl rfl rfl
  · intro h; exact WP.leaf (by rw [h])
  · intro h; exact WP.leaf (by rw [h])
set_option maxHeartbeats 4000000 in
theorem stmt_chk (hX : LibX X) : ∀ (n : Nat) (s : TStmt), SizeOf.sizeOf s < n → smS s → Does X 84 [.agg (sD s)] [] (.ret (vB (rightS s)) [])
  | 0, e, h, _ => absurd h (Nat.not_lt_zero _)
  | n + 1, .mk k a nm e body els he, hn, hs => by
    simp only [smS] at hs
    obtain ⟨h1, h2, h3, h4, h5, h6⟩ := hs
    simp only [TStmt.mk.sizeOf_spec] at hn
    have hb := block_chk (X := X) body h3 (fun x hx => stmt_chk hX n x (by have := List.sizeOf_lt_of_mem hx; omega) (smSs_mem h5 hx))
    have hl := block_chk (X := X) els h4 (fun x hx => stmt_chk hX n x (by have := List.sizeOf_lt_of_mem hx; omega) (smSs_mem h6 hx))
    have hw := lword hX nm h1
    have hr := right_does hX (SizeOf.sizeOf e + 1) e (Nat.lt_succ_self _) h2
    have hN := nothing_does (X := X) e
    have e1 := ssAll_len body
    have e2 := ssAll_len els
    refine DoesQ.eq (DoesQ.of Tryz.func84 (by kernel_rfl) ?_)
    clear hn h1 h2 h3 h4 h5 h6
    dsimp only [sD, TStmt.k, TStmt.a, TStmt.nm, TStmt.e, TStmt.body, TStmt.els, TStmt.he]
    rw [rightS]
    refine WP.use1 hb ?_
    repeat' first | refine WP.iteT (by assumption) ?_ | refine WP.iteF (by assumption) ?_ | refine WP.ite (fun _ => ?_) (fun _ => ?_) | refine WP.leaf ?_ | refine WP.use1 hl ?_ | refine WP.use1 hr ?_ | refine WP.use1 hw ?_ | refine WP.use1 hN ?_ | refine WP.asrt (by kernel_rfl) ?_
    all_goals
      clear hw hb hl hr hN hX
      refine congrArg (fun b => Out.ret (vB b) []) ?_
      unfold rightSN
      simp_all [bytes_empty]
      try (intro h; subst h; contradiction)
end Go.Proofs.YtacfbgfphkfobaaGreatDoor.Id
/-! ## PaRightF -/
namespace Go.Proofs.YtacfbgfphkfobaaGreatDoor.Id
open Go
set_option linter.unusedVariables false
set_option linter.unusedSimpArgs false
variable {X : Given}
def rightI (x : TIncl) : Bool := decide (x.p.size ≤ 4096) && isWord x.nm
def rightC (c : TCons) : Bool := isWord c.nm && rightE c.e
def rightP (p : TParam) : Bool := isWord p.nm && (decide (1 ≤ p.t) && decide (p.t ≤ 3))
def rightF (f : TFunc) : Bool := isWord f.nm && (decide (0 ≤ f.res) && (decide (f.res ≤ 3) && (rightSs f.body && f.ps.all rightP)))
def rightM (m : TMod) : Bool := m.is.all rightI && (m.cs.all rightC && m.fs.all rightF)
structure SmF (f : TFunc) : Prop where
  nm : f.nm.size ≤ 1048576
  np : f.ps.length ≤ 1000000000
  ps : ∀ p ∈ f.ps, p.nm.size ≤ 1048576
  nb : f.body.length ≤ 1000000000
  body : smSs f.body
structure SmM (m : TMod) : Prop where
  ni : m.is.length ≤ 1000000000
  nc : m.cs.length ≤ 1000000000
  nf : m.fs.length ≤ 1000000000
  is : ∀ x ∈ m.is, x.nm.size ≤ 1048576
  cs : ∀ c ∈ m.cs, c.nm.size ≤ 1048576 ∧ smE c.e
  fs : ∀ f ∈ m.fs, SmF f
theorem map_get {α : Type} (F : α → List D) {l p r : List α} {x : α} (h : l = p ++ x :: r) : (l.map F)[((p.length : Int)).toNat]? = some (F x) := by
  subst h; simp
theorem all_app {α : Type} (f : α → Bool) (a b : List α) : (a ++ b).all f = (a.all f && b.all f) := by simp
abbrev mV (m : TMod) : List V := [.d (.sl 3 (isD' m.is)), .d (.sl 13 (csD m.cs)), .d (.sl 6 (fsD m.fs))]
theorem rI_loop (hX : LibX X) (l : List TIncl) (hk : l.length ≤ 1000000000) (hD : ∀ x ∈ l, x.nm.size ≤ 1048576) (m : TMod) (K : Ex → St → Id.T Out) (Q : Out → Prop)
    (hE : l.all rightI = true → WP X (K (.exit 0) ⟨[(1, .box 1 0)], [(1, mV m)]⟩) Q) (hR : l.all rightI = false → WP X (K .ret ⟨[(2, .lit false)], []⟩) Q) :
    ∀ (r p : List TIncl), l = p ++ r → p.all rightI = true → ∀ σ : St, getT σ.t 1 = .box 1 0 → getB σ.b 1 = some (mV m) → getT σ.t 12 = .d (.sl 3 (isD' l)) → getT σ.t 13 = vI (isD' l).length → getT σ.t 14 = vI p.length → WP X (.loop (lp Tryz.f25 0) σ K) Q
  | r, p, h, hp, σ, g1, gb, g5, g6, g7 => by
    refine WP.round ⟨[(1, .box 1 0), (12, .d (.sl 3 (isD' l))), (13, vI (isD' l).length), (14, vI p.length)], [(1, mV m)]⟩ ⟨⟨.inl g1.symm, .inl g5.symm, .inl g6.symm, .inl g7.symm, trivial⟩, ⟨WkB.box gb, trivial⟩⟩ ?_
    have hlen : l.length = p.length + r.length := by rw [h]; simp
    cases r with
    | nil =>
      refine WP.iteF (by simp at hlen; simp; omega) ?_
      refine WP.leaf ⟨⟨[(1, .box 1 0)], [(1, mV m)]⟩, ⟨⟨.inl rfl, trivial⟩, ⟨WkB.box rfl, trivial⟩⟩, hE (by rw [h]; simpa using hp)⟩
    | cons y r =>
      simp only [List.length_cons] at hlen
      have hw := lword hX y.nm (hD y (by rw [h]; simp))
      refine WP.iteT (by simp; omega) ?_
      refine WP.idx _ (by omega) (map_get iD h) ?_
      have hgo : rightI y = true → ∀ σ : St, getT σ.t 1 = .box 1 0 → getB σ.b 1 = some (mV m) → getT σ.t 12 = .d (.sl 3 (isD' l)) → getT σ.t 13 = vI (isD' l).length → getT σ.t 14 = vI (IntKind.i64.wrap ((p.length : Int) + 1)) → WP X (.loop (lp Tryz.f25 0) σ K) Q := fun hy σ e1 eb e12 e13 e14 => by
        refine rI_loop hX l hk hD m K Q hE hR r (p ++ [y]) (by rw [h]; simp) (by rw [all_app, hp]; simp [hy]) σ e1 eb e12 e13 ?_
        rw [e14, wrapI (by omega) (by omega)]; simp
      have hno : rightI y = false → WP X (K .ret ⟨[(2, .lit false)], []⟩) Q := fun hy => hR (by rw [h, all_app]; simp [hy])
      refine WP.dec (fun h1 => ?_) (fun h1 => ?_)
      · exact WP.leaf ⟨⟨[(2, .lit false)], []⟩, ⟨⟨.inl rfl, trivial⟩, trivial⟩, hno (by unfold rightI; rw [decide_eq_false (by omega)]; rfl)⟩
      · refine WP.use1 hw ?_
        refine WP.ite (fun h2 => ?_) (fun h2 => ?_)
        · exact WP.leaf ⟨⟨[(2, .lit false)], []⟩, ⟨⟨.inl rfl, trivial⟩, trivial⟩, hno (by unfold rightI; simp at h2; simp [h2])⟩
        · exact WP.leaf (hgo (by unfold rightI; rw [decide_eq_true (by omega)]; simpa using h2) _ rfl rfl rfl rfl rfl)
theorem rC_loop (hX : LibX X) (l : List TCons) (hk : l.length ≤ 1000000000) (hD : ∀ c ∈ l, c.nm.size ≤ 1048576 ∧ smE c.e) (m : TMod) (K : Ex → St → Id.T Out) (Q : Out → Prop)
    (hE : l.all rightC = true → WP X (K (.exit 2) ⟨[(1, .box 1 0)], [(1, mV m)]⟩) Q) (hR : l.all rightC = false → WP X (K .ret ⟨[(2, .lit false)], []⟩) Q) :
    ∀ (r p : List TCons), l = p ++ r → p.all rightC = true → ∀ σ : St, getT σ.t 1 = .box 1 0 → getB σ.b 1 = some (mV m) → getT σ.t 30 = .d (.sl 13 (csD l)) → getT σ.t 31 = vI (csD l).length → getT σ.t 32 = vI p.length → WP X (.loop (lp Tryz.f25 1) σ K) Q
  | r, p, h, hp, σ, g1, gb, g5, g6, g7 => by
    refine WP.round ⟨[(1, .box 1 0), (30, .d (.sl 13 (csD l))), (31, vI (csD l).length), (32, vI p.length)], [(1, mV m)]⟩ ⟨⟨.inl g1.symm, .inl g5.symm, .inl g6.symm, .inl g7.symm, trivial⟩, ⟨WkB.box gb, trivial⟩⟩ ?_
    have hlen : l.length = p.length + r.length := by rw [h]; simp
    cases r with
    | nil =>
      refine WP.iteF (by simp at hlen; simp; omega) ?_
      refine WP.leaf ⟨⟨[(1, .box 1 0)], [(1, mV m)]⟩, ⟨⟨.inl rfl, trivial⟩, ⟨WkB.box rfl, trivial⟩⟩, hE (by rw [h]; simpa using hp)⟩
    | cons y r =>
      simp only [List.length_cons] at hlen
      have hy := hD y (by rw [h]; simp)
      have hw := lword hX y.nm hy.1
      have hr := right_does hX (SizeOf.sizeOf y.e + 1) y.e (Nat.lt_succ_self _) hy.2
      refine WP.iteT (by simp; omega) ?_
      refine WP.idx _ (by omega) (map_get cD h) ?_
      have hgo : rightC y = true → ∀ σ : St, getT σ.t 1 = .box 1 0 → getB σ.b 1 = some (mV m) → getT σ.t 30 = .d (.sl 13 (csD l)) → getT σ.t 31 = vI (csD l).length → getT σ.t 32 = vI (IntKind.i64.wrap ((p.length : Int) + 1)) → WP X (.loop (lp Tryz.f25 1) σ K) Q := fun hy σ e1 eb e12 e13 e14 => by
        refine rC_loop hX l hk hD m K Q hE hR r (p ++ [y]) (by rw [h]; simp) (by rw [all_app, hp]; simp [hy]) σ e1 eb e12 e13 ?_
        rw [e14, wrapI (by omega) (by omega)]; simp
      have hno : rightC y = false → WP X (K .ret ⟨[(2, .lit false)], []⟩) Q := fun hy => hR (by rw [h, all_app]; simp [hy])
      refine WP.use1 hw ?_
      refine WP.ite (fun h1 => ?_) (fun h1 => ?_)
      · exact WP.leaf ⟨⟨[(2, .lit false)], []⟩, ⟨⟨.inl rfl, trivial⟩, trivial⟩, hno (by unfold rightC; simp at h1; simp [h1])⟩
      · refine WP.use1 hr ?_
        refine WP.ite (fun h2 => ?_) (fun h2 => ?_)
        · exact WP.leaf ⟨⟨[(2, .lit false)], []⟩, ⟨⟨.inl rfl, trivial⟩, trivial⟩, hno (by unfold rightC; simp at h2; simp [h2])⟩
        · exact WP.leaf (hgo (by unfold rightC; simp at h1 h2; simp [h1, h2]) _ rfl rfl rfl rfl rfl)
theorem rP_loop {β : Type} (hX : LibX X) (l : List TParam) (hk : l.length ≤ 1000000000) (hD : ∀ p ∈ l, p.nm.size ≤ 1048576) (z48 : List (List D)) (n49 n50 : Int) (K : Ex → St → Id.T β) (Q : β → Prop)
    (hE : l.all rightP = true → WP X (K (.exit 6) ⟨[(48, .d (.sl 6 z48)), (49, vI n49), (50, vI n50)], []⟩) Q) (hR : l.all rightP = false → WP X (K .ret ⟨[(2, .lit false)], []⟩) Q) :
    ∀ (r p : List TParam), l = p ++ r → p.all rightP = true → ∀ σ : St, getT σ.t 48 = .d (.sl 6 z48) → getT σ.t 49 = vI n49 → getT σ.t 50 = vI n50 → getT σ.t 75 = .d (.sl 2 (psD l)) → getT σ.t 76 = vI (psD l).length → getT σ.t 77 = vI p.length → WP X (.loop (lp Tryz.f25 3) σ K) Q
  | r, p, h, hp, σ, g1, g2, g3, g5, g6, g7 => by
    refine WP.round ⟨[(48, .d (.sl 6 z48)), (49, vI n49), (50, vI n50), (75, .d (.sl 2 (psD l))), (76, vI (psD l).length), (77, vI p.length)], []⟩ ⟨⟨.inl g1.symm, .inl g2.symm, .inl g3.symm, .inl g5.symm, .inl g6.symm, .inl g7.symm, trivial⟩, trivial⟩ ?_
    have hlen : l.length = p.length + r.length := by rw [h]; simp
    cases r with
    | nil =>
      refine WP.iteF (by simp at hlen; simp; omega) ?_
      refine WP.leaf ⟨⟨[(48, .d (.sl 6 z48)), (49, vI n49), (50, vI n50)], []⟩, ⟨⟨.inl rfl, .inl rfl, .inl rfl, trivial⟩, trivial⟩, hE (by rw [h]; simpa using hp)⟩
    | cons y r =>
      simp only [List.length_cons] at hlen
      have hw := lword hX y.nm (hD y (by rw [h]; simp))
      refine WP.iteT (by simp; omega) ?_
      refine WP.idx _ (by omega) (map_get pD h) ?_
      have hgo : rightP y = true → ∀ σ : St, getT σ.t 48 = .d (.sl 6 z48) → getT σ.t 49 = vI n49 → getT σ.t 50 = vI n50 → getT σ.t 75 = .d (.sl 2 (psD l)) → getT σ.t 76 = vI (psD l).length → getT σ.t 77 = vI (IntKind.i64.wrap ((p.length : Int) + 1)) → WP X (.loop (lp Tryz.f25 3) σ K) Q := fun hy σ e1 e2 e3 e12 e13 e14 => by
        refine rP_loop hX l hk hD z48 n49 n50 K Q hE hR r (p ++ [y]) (by rw [h]; simp) (by rw [all_app, hp]; simp [hy]) σ e1 e2 e3 e12 e13 ?_
        rw [e14, wrapI (by omega) (by omega)]; simp
      have hno : rightP y = false → WP X (K .ret ⟨[(2, .lit false)], []⟩) Q := fun hy => hR (by rw [h, all_app]; simp [hy])
      refine WP.use1 hw ?_
      repeat' first | refine WP.iteT (by assumption) ?_ | refine WP.iteF (by assumption) ?_ | refine WP.ite (fun _ => ?_) (fun _ => ?_) | refine WP.leaf ?_
      all_goals first
        | exact ⟨⟨[(2, .lit false)], []⟩, ⟨⟨.inl rfl, trivial⟩, trivial⟩, hno (by unfold rightP; simp_all <;> omega)⟩
        | exact hgo (by unfold rightP; simp_all <;> omega) _ rfl rfl rfl rfl rfl rfl
theorem rF_loop (hX : LibX X) (l : List TFunc) (hk : l.length ≤ 1000000000) (hD : ∀ f ∈ l, SmF f) (K : Ex → St → Id.T Out) (Q : Out → Prop)
    (hE : l.all rightF = true → WP X (K (.exit 4) ⟨[], []⟩) Q) (hR : l.all rightF = false → WP X (K .ret ⟨[(2, .lit false)], []⟩) Q) :
    ∀ (r p : List TFunc), l = p ++ r → p.all rightF = true → ∀ σ : St, getT σ.t 48 = .d (.sl 6 (fsD l)) → getT σ.t 49 = vI (fsD l).length → getT σ.t 50 = vI p.length → WP X (.loop (lp Tryz.f25 2) σ K) Q
  | r, p, h, hp, σ, g5, g6, g7 => by
    refine WP.round ⟨[(48, .d (.sl 6 (fsD l))), (49, vI (fsD l).length), (50, vI p.length)], []⟩ ⟨⟨.inl g5.symm, .inl g6.symm, .inl g7.symm, trivial⟩, trivial⟩ ?_
    have hlen : l.length = p.length + r.length := by rw [h]; simp
    cases r with
    | nil =>
      refine WP.iteF (by simp at hlen; simp; omega) ?_
      refine WP.leaf ⟨⟨[], []⟩, ⟨trivial, trivial⟩, hE (by rw [h]; simpa using hp)⟩
    | cons y r =>
      simp only [List.length_cons] at hlen
      have hy := hD y (by rw [h]; simp)
      have hw := lword hX y.nm hy.nm
      have hb := block_chk (X := X) y.body hy.nb (fun x hx => stmt_chk hX (SizeOf.sizeOf x + 1) x (Nat.lt_succ_self _) (smSs_mem hy.body hx))
      refine WP.iteT (by simp; omega) ?_
      refine WP.idx _ (by omega) (map_get fD h) ?_
      have hno : rightF y = false → WP X (K .ret ⟨[(2, .lit false)], []⟩) Q := fun hy => hR (by rw [h, all_app]; simp [hy])
      refine WP.use1 hw ?_
      repeat' first | refine WP.iteT (by assumption) ?_ | refine WP.iteF (by assumption) ?_ | refine WP.ite (fun _ => ?_) (fun _ => ?_) | refine WP.leaf ?_ | refine WP.use1 hb ?_
      all_goals first
        | exact ⟨⟨[(2, .lit false)], []⟩, ⟨⟨.inl rfl, trivial⟩, trivial⟩, hno (by unfold rightF; simp_all <;> omega)⟩
        | skip
      refine rP_loop hX y.ps hy.np hy.ps (fsD l) (fsD l).length p.length _ _ ?_ ?_ y.ps [] rfl rfl _ rfl rfl rfl rfl rfl rfl
      · intro ha
        refine WP.leaf ?_
        refine rF_loop hX l hk hD K Q hE hR r (p ++ [y]) (by rw [h]; simp) (by rw [all_app, hp]; unfold rightF; simp_all) _ rfl rfl ?_
        show vI (IntKind.i64.wrap ((p.length : Int) + 1)) = _
        rw [wrapI (by omega) (by omega)]; simp
      · intro ha
        exact WP.leaf ⟨⟨[(2, .lit false)], []⟩, ⟨⟨.inl rfl, trivial⟩, trivial⟩, hno (by unfold rightF; simp_all)⟩
theorem right_mod (hX : LibX X) (m : TMod) (hm : SmM m) : Does X 25 [.agg (mD m)] [] (.ret (vB (rightM m)) []) := by
  refine DoesQ.eq (DoesQ.of Tryz.func25 (by kernel_rfl) ?_)
  unfold rightM
  refine rI_loop hX m.is hm.ni hm.is m _ _ ?_ ?_ m.is [] rfl rfl _ rfl rfl rfl rfl rfl
  · intro h1
    refine rC_loop hX m.cs hm.nc hm.cs m _ _ ?_ ?_ m.cs [] rfl rfl _ rfl rfl rfl rfl rfl
    · intro h2
      refine rF_loop hX m.fs hm.nf hm.fs _ _ ?_ ?_ m.fs [] rfl rfl _ rfl rfl rfl
      · intro h3; exact WP.leaf (by rw [h1, h2, h3]; rfl)
      · intro h3; exact WP.leaf (by rw [h1, h2, h3]; rfl)
    · intro h2; exact WP.leaf (by rw [h1, h2]; rfl)
  · intro h1; exact WP.leaf (by rw [h1]; rfl)
end Go.Proofs.YtacfbgfphkfobaaGreatDoor.Id
/-! ## InvI -/
namespace Go.Proofs.YtacfbgfphkfobaaGreatDoor.P
open Go.RowKit
structure Inv (w : World) : Prop where
  pow : Lib.TabIs Tryz.prog w "internal/strconv.uint64pow10" .u64 Lib.pow10Tab
  rng : ∃ ev, w.cell? ⟨2, 0, none⟩ = some ev ∧ (ev = .nilIface ∨ ∃ te pe, ev = .iface te pe)
theorem gPow : Tryz.prog.globalNamed "internal/strconv.uint64pow10" = some 3 := by kernel_rfl
theorem Inv.below {w w' : World} (h : Inv w) (hb : Below w.heap.size w w') : Inv w' := by
  constructor
  · have h1 := h.pow
    unfold Lib.TabIs World.var? at h1 ⊢
    rw [gPow] at h1 ⊢
    simp only [Option.bind_some] at h1 ⊢
    cases hc : w.heap[3]? with
    | none => rw [hc] at h1; cases h1
    | some o =>
      have hlt : 3 < w.heap.size := by
        rcases Nat.lt_or_ge 3 w.heap.size with h2 | h2
        · exact h2
        · rw [Array.getElem?_eq_none h2] at hc; cases hc
      rw [hb.block _ hlt, hc]
      rw [hc] at h1
      exact h1
  · obtain ⟨ev, h1, h2⟩ := h.rng
    refine ⟨ev, ?_, h2⟩
    have hlt := World.block_lt_of_cell? w _ h1
    rw [hb.cell hlt]; exact h1
end Go.Proofs.YtacfbgfphkfobaaGreatDoor.P
/-! ## LaidI -/
namespace Go.Proofs.YtacfbgfphkfobaaGreatDoor.P
open Go.RowKit
theorem gErrS : Tryz.prog.globalNamed "strconv.ErrSyntax" = some 1 := by kernel_rfl
theorem gErrR : Tryz.prog.globalNamed "strconv.ErrRange" = some 2 := by kernel_rfl
theorem starE : "*" ++ "errors.errorString" = "*errors.errorString" := by decide
theorem rowE (u : TypeId) (h : Tryz.prog.typeName? 3 u = some "*errors.errorString") : u = 200 :=
  typeName_ptr_named (nm := "errors.errorString") (by rw [starE]; kernel_rfl) (by kernel_rfl) (by decide) u (by rw [starE]; exact h)
theorem cellsOfTab : Tryz.prog.cellsOf 195 = 20 := by kernel_rfl
theorem inv_of_laid {W : World} {l0 l1 : String × DataW Unit} {r : List (String × DataW Unit)} {text : List UInt8}
    (h : laidMet Tryz.prog (l0 :: l1 :: ("internal/strconv.uint64pow10", Lib.tabData .u64 Lib.pow10Tab) :: ("strconv.ErrRange", .iface "*errors.errorString" (.ptr (.agg [.lit (.string text)]))) :: r) W) : Inv W := by
  constructor
  · exact Lib.tabIs_of_head (t := 195) (n := 20) gPow (by kernel_rfl) Tryz.underlying195 Tryz.underlying148 (by kernel_rfl) (by kernel_rfl) h.tail.tail
  · obtain ⟨a1, s1, hv1, -, -, -⟩ := laid_sentinel (ti := 126) (tp := 200) (te := 202) (ts := 9) h.tail.tail.tail gErrR (by kernel_rfl) Tryz.underlying126 rowE Tryz.underlying200 Tryz.underlying202 rfl rfl Tryz.underlying9 (by kernel_rfl) (by kernel_rfl)
    exact ⟨_, by have h0 := World.var?_cell gErrR hv1 0; simpa using h0, Or.inr ⟨_, _, rfl⟩⟩
theorem inv_of_laid1 {W : World} {l0 l1 l2 : String × DataW Unit} {r : List (String × DataW Unit)} {text : List UInt8}
    (h : laidMet Tryz.prog (l0 :: l1 :: ("internal/strconv.uint64pow10", Lib.tabData .u64 Lib.pow10Tab) :: l2 :: ("strconv.ErrRange", .iface "*errors.errorString" (.ptr (.agg [.lit (.string text)]))) :: r) W) : Inv W := by
  constructor
  · exact Lib.tabIs_of_head (t := 195) (n := 20) gPow (by kernel_rfl) Tryz.underlying195 Tryz.underlying148 (by kernel_rfl) (by kernel_rfl) h.tail.tail
  · obtain ⟨a1, s1, hv1, -, -, -⟩ := laid_sentinel (ti := 126) (tp := 200) (te := 202) (ts := 9) h.tail.tail.tail.tail gErrR (by kernel_rfl) Tryz.underlying126 rowE Tryz.underlying200 Tryz.underlying202 rfl rfl Tryz.underlying9 (by kernel_rfl) (by kernel_rfl)
    exact ⟨_, by have h0 := World.var?_cell gErrR hv1 0; simpa using h0, Or.inr ⟨_, _, rfl⟩⟩
end Go.Proofs.YtacfbgfphkfobaaGreatDoor.P
/-! ## PaRightB -/
namespace Go.Proofs.YtacfbgfphkfobaaGreatDoor.Id
open Go
set_option linter.unusedVariables false
set_option linter.unusedSimpArgs false
variable {X : Given}
theorem tw_len_all (p : UInt8 → Bool) : ∀ l : List UInt8, (l.takeWhile p).length = l.length ↔ l.all p = true
  | [] => by simp
  | c :: r => by
    rw [List.takeWhile_cons, List.all_cons]
    have ih := tw_len_all p r
    by_cases h : p c = true
    · rw [if_pos h, List.length_cons, List.length_cons, h, Bool.true_and, ← ih]; omega
    · rw [if_neg h]; simp [h]
def nmOk : List UInt8 → Bool
  | [] => false
  | c :: r => decide ((c :: r).length ≤ 32) && (isL c && (c :: r).all isW)
theorem just_word (l : List UInt8) : just l 1 = (nmOk l && !decide (l ∈ keyTexts)) := by
  cases l with
  | nil => rfl
  | cons c r =>
    have hl := tw_len_all isW (c :: r)
    have hle := tw_le isW (c :: r)
    unfold just nmOk
    change (decide (c :: r ≠ []) && decide ((tokC c r).2.2 = 0) && decide ((tokC c r).1 = 1) && decide ((tokC c r).2.1 = (c :: r).length)) = ((decide ((c :: r).length ≤ 32) && (isL c && (c :: r).all isW)) && !decide (c :: r ∈ keyTexts))
    unfold tokC
    generalize ((c :: r).takeWhile isW).length = n at *
    by_cases h1 : isL c = true
    · rw [if_pos h1, h1]
      by_cases hn : n = (c :: r).length
      · have ha := hl.1 hn
        rw [ha]
        subst hn
        rw [List.take_length]
        by_cases h2 : 32 < (c :: r).length
        · rw [if_pos h2]
          rw [decide_eq_false (show ¬ (c :: r).length ≤ 32 by omega)]
          simp
        · rw [if_neg h2]
          have : (c :: r).length ≤ 32 := by omega
          by_cases h3 : c :: r ∈ keyTexts
          · rw [if_pos h3]; simp [h3]
          · rw [if_neg h3]; simp at this; simp [h3, this]
      · have ha : (c :: r).all isW = false := by
          cases h : (c :: r).all isW with
          | false => rfl
          | true => exact absurd (hl.2 h) hn
        rw [ha]
        split
        · simp
        · split
          · simp
          · simp at hn; simp [hn]
    · rw [if_neg h1]
      have : isL c = false := by simpa using h1
      rw [this]
      repeat' split
      all_goals simp
theorem name_loop (s : ByteArray) (hs : s.size ≤ 1048576) (K : Ex → St → T Out) (Q : Out → Prop) : ∀ (r : List UInt8) (i : Nat), (L s).drop i = r →
    (r.all isW = true → WP X (K (.exit 0) ⟨[], []⟩) Q) → (r.all isW = false → WP X (K .ret ⟨[(2, .lit false)], []⟩) Q) → ∀ σ : St, getT σ.t 0 = vS s → getT σ.t 3 = vI i →
    WP X (.loop (lp Tryz.f85 0) σ K) Q
  | r, i, h, hE, hR, σ, g0, g3 => by
    refine WP.round ⟨[(0, vS s), (3, vI i)], []⟩ ⟨⟨.inl g0.symm, .inl g3.symm, trivial⟩, trivial⟩ ?_
    cases r with
    | nil =>
      have h1 := drop_none h; rw [L_length] at h1
      refine WP.iteF (by simp; omega) ?_
      exact WP.leaf ⟨⟨[], []⟩, ⟨trivial, trivial⟩, hE rfl⟩
    | cons c r =>
      obtain ⟨hb, hi⟩ := bt_drop h
      have hgo : isW c = true → ∀ σ : St, getT σ.t 0 = vS s → getT σ.t 3 = vI (IntKind.i64.wrap ((i : Int) + 1)) → WP X (.loop (lp Tryz.f85 0) σ K) Q := fun hw σ e0 e3 => by
        refine name_loop s hs K Q r (i + 1) (drop_some h).2.2 ?_ ?_ σ e0 ?_
        · intro ha; exact hE (by rw [List.all_cons, hw, ha]; rfl)
        · intro ha; exact hR (by rw [List.all_cons, hw, ha]; rfl)
        · rw [e3, wrapI (by omega) (by omega)]; rfl
      refine WP.iteT (by simp; omega) ?_
      refine WP.asrt (by omega) ?_
      refine WP.use1 (by rw [hb]; exact rletter c) ?_
      by_cases h1 : isL c = true
      · refine WP.iteF (by simp [h1]) ?_
        exact WP.leaf (hgo (by unfold isW; rw [h1]; rfl) _ rfl rfl)
      refine WP.iteT (by simp [h1]) ?_
      refine WP.asrt (by omega) ?_
      refine WP.use1 (by rw [hb]; exact rdigit c) ?_
      by_cases h2 : isD c = true
      · refine WP.iteF (by simp [h2]) ?_
        exact WP.leaf (hgo (by unfold isW; rw [h2]; simp) _ rfl rfl)
      · refine WP.iteT (by simp [h2]) ?_
        refine WP.leaf ⟨⟨[(2, .lit false)], []⟩, ⟨⟨.inl rfl, trivial⟩, trivial⟩, hR ?_⟩
        rw [List.all_cons]; unfold isW; simp [h1, h2]
theorem rname (s : ByteArray) (hs : s.size ≤ 1048576) : Does X 85 [vS s] [] (.ret (vB (nmOk (L s))) []) := by
  refine DoesQ.eq (DoesQ.of Tryz.func85 (by kernel_rfl) ?_)
  have hz := L_length s
  cases hl : L s with
  | nil =>
    rw [hl] at hz
    have hz0 : s.size = 0 := hz.symm
    refine WP.iteT (decide_eq_true (by omega)) ?_
    exact WP.leaf rfl
  | cons c r =>
    obtain ⟨hb, hi⟩ := bt_drop (s := s) (i := 0) (c := c) (r := r) (by rw [hl]; rfl)
    rw [hl] at hz
    have hp : 0 < (c :: r).length := by simp
    refine WP.iteF (decide_eq_false (by omega)) ?_
    rw [show nmOk (c :: r) = (decide ((c :: r).length ≤ 32) && (isL c && (c :: r).all isW)) from rfl]
    by_cases h32 : (c :: r).length ≤ 32
    · refine WP.iteF (decide_eq_false (by omega)) ?_
      refine WP.asrt (by omega) ?_
      refine WP.use1 (by rw [show bt s 0 = _ from hb]; exact rletter c) ?_
      by_cases h1 : isL c = true
      · refine WP.iteF (by simp [h1]) ?_
        refine name_loop s hs _ _ (c :: r) 0 (by rw [hl]; rfl) ?_ ?_ _ rfl rfl
        · intro ha; exact WP.leaf (by rw [decide_eq_true h32, h1, ha]; rfl)
        · intro ha; exact WP.leaf (by rw [decide_eq_true h32, h1, ha]; rfl)
      · refine WP.iteT (by simp [h1]) ?_
        exact WP.leaf (by simp [h1])
    · refine WP.iteT (decide_eq_true (by omega)) ?_
      exact WP.leaf (by rw [decide_eq_false h32]; rfl)
theorem rword (s : ByteArray) (hs : s.size ≤ 1048576) : Does X 50 [vS s] [] (.ret (vB (isWord s)) []) := by
  refine DoesQ.eq (DoesQ.of Tryz.func50 (by kernel_rfl) ?_)
  refine WP.use1 (rname s hs) ?_
  unfold isWord
  rw [just_word]
  refine WP.ite (fun h => ?_) (fun h => ?_)
  · refine WP.use1 (rkey s) ?_
    exact WP.leaf (by rw [h]; rfl)
  · exact WP.leaf (by rw [h]; rfl)
theorem rright_loop (hX : LibX X) (e : TExpr) (hk : e.kids.length ≤ 1000000000) (hD : ∀ x ∈ e.kids, Does X 51 [.agg (eD x)] [] (.ret (vB (rightE x)) [])) (K : Ex → St → Id.T Out) (Q : Out → Prop)
    (hE : rightEs e.kids = true → WP X (K (.exit 0) ⟨[(1, .box 1 0)], [(1, eV e)]⟩) Q) (hR : rightEs e.kids = false → WP X (K .ret ⟨[(2, .lit false)], []⟩) Q) :
    ∀ (r p : List TExpr), e.kids = p ++ r → rightEs p = true → ∀ σ : St, getT σ.t 1 = .box 1 0 → getT σ.t 3 = vI p.length → getB σ.b 1 = some (eV e) → WP X (.loop (lp Tryz.f51 0) σ K) Q
  | r, p, h, hp, σ, g1, g3, gb => by
    refine WP.round ⟨[(1, .box 1 0), (3, vI p.length)], [(1, eV e)]⟩ ⟨⟨.inl g1.symm, .inl g3.symm, trivial⟩, ⟨WkB.box gb, trivial⟩⟩ ?_
    have hlen : e.kids.length = p.length + r.length := by rw [h]; simp
    cases r with
    | nil =>
      refine WP.iteF (by rw [dsAll_len]; simp at hlen; simp; omega) ?_
      refine WP.leaf ⟨⟨[(1, .box 1 0)], [(1, eV e)]⟩, ⟨⟨.inl rfl, trivial⟩, ⟨WkB.box rfl, trivial⟩⟩, hE (by rw [h]; simpa using hp)⟩
    | cons y r =>
      simp only [List.length_cons] at hlen
      refine WP.iteT (by rw [dsAll_len]; simp; omega) ?_
      refine WP.idx _ (by omega) (dsAll_get h) ?_
      refine WP.use1 (hD y (by rw [h]; simp)) ?_
      refine WP.ite (fun hx => ?_) (fun hx => ?_)
      · refine WP.leaf ⟨⟨[(2, .lit false)], []⟩, ⟨⟨.inl rfl, trivial⟩, trivial⟩, hR ?_⟩
        rw [h, rightEs_app, rightEs]
        simp at hx; simp [hx]
      · refine WP.leaf ?_
        refine rright_loop hX e hk hD K Q hE hR r (p ++ [y]) (by rw [h]; simp) (by rw [rightEs_app, hp]; simp at hx; simp [rightEs, hx]) _ rfl ?_ rfl
        show vI (IntKind.i64.wrap ((p.length : Int) + 1)) = _
        rw [wrapI (by omega) (by omega)]; simp
set_option maxHeartbeats 4000000 in
theorem rright_does (hX : LibX X) : ∀ (n : Nat) (e : TExpr), SizeOf.sizeOf e < n → smE e → Does X 51 [.agg (eD e)] [] (.ret (vB (rightE e)) [])
  | 0, e, h, _ => absurd h (Nat.not_lt_zero _)
  | n + 1, .mk k a of nm v op kids, hn, hs => by
    simp only [smE] at hs
    obtain ⟨h1, h2, h3, h4⟩ := hs
    refine DoesQ.eq (DoesQ.of Tryz.func51 (by kernel_rfl) ?_)
    refine rright_loop hX (.mk k a of nm v op kids) h3 (fun x hx => rright_does hX n x ?_ (smEs_mem h4 hx)) _ _ ?_ ?_ kids [] rfl rfl _ rfl rfl rfl
    · have := List.sizeOf_lt_of_mem hx
      simp only [TExpr.mk.sizeOf_spec] at hn
      have : (TExpr.mk k a of nm v op kids).kids = kids := rfl
      simp_all; omega
    · intro hk
      have hw := rword (X := X) nm h2
      have ho := rword (X := X) of h1
      have hv := literal_does (X := X) v
      have hk' : rightEs kids = true := hk
      have e1 := dsAll_len kids
      clear hk hn h1 h2 h3 h4
      dsimp only [eV, TExpr.k, TExpr.a, TExpr.of, TExpr.nm, TExpr.v, TExpr.op, TExpr.kids]
      rw [rightE, hk']
      refine WP.use1 hw ?_
      repeat' first | refine WP.iteT (by assumption) ?_ | refine WP.iteF (by assumption) ?_ | refine WP.ite (fun _ => ?_) (fun _ => ?_) | refine WP.leaf ?_ | refine WP.use1 hv ?_ | refine WP.use1 ho ?_ | refine WP.asrt (by kernel_rfl) ?_
      all_goals
        clear hw ho hv hX hk'
        refine congrArg (fun b => Out.ret (vB b) []) ?_
        unfold rightN namedOk bareOk noVal
        simp_all [bytes_empty]
        all_goals first | omega | (rw [Bool.eq_iff_iff]; simp; omega)
    · intro hk
      refine WP.leaf ?_
      have hk' : rightEs kids = false := hk
      rw [rightE, hk']; rfl
end Go.Proofs.YtacfbgfphkfobaaGreatDoor.Id
/-! ## PaRightG -/
namespace Go.Proofs.YtacfbgfphkfobaaGreatDoor.Id
open Go
set_option linter.unusedVariables false
set_option linter.unusedSimpArgs false
set_option maxRecDepth 100000
set_option maxHeartbeats 4000000
variable {X : Given}
theorem rnothing_does (e : TExpr) : Does X 123 [.agg (eD e)] [] (.ret (vB (noneE e)) []) := by
  obtain ⟨k, a, of, nm, v, op, kids⟩ := e
  have e1 := dsAll_len kids
  refine DoesQ.eq (DoesQ.of Tryz.func123 (by kernel_rfl) ?_)
  dsimp only [eD, TExpr.k, TExpr.a, TExpr.of, TExpr.nm, TExpr.v, TExpr.op, TExpr.kids]
  repeat' first | refine WP.iteT (by assumption) ?_ | refine WP.iteF (by assumption) ?_ | refine WP.ite (fun _ => ?_) (fun _ => ?_) | refine WP.leaf ?_ | refine WP.asrt (by kernel_rfl) ?_
  all_goals
    refine congrArg (fun b => Out.ret (vB b) []) ?_
    change _ = noneN k of nm v op kids.length
    unfold noneN noVal
    simp_all [bytes_empty]
theorem rstmts_loop (l : List TStmt) (hk : l.length ≤ 1000000000) (hD : ∀ x ∈ l, Does X 87 [.agg (sD x)] [] (.ret (vB (rightS x)) [])) (K : Ex → St → Id.T Out) (Q : Out → Prop)
    (hE : rightSs l = true → WP X (K (.exit 0) ⟨[], []⟩) Q) (hR : rightSs l = false → WP X (K .ret ⟨[(2, .lit false)], []⟩) Q) :
    ∀ (r p : List TStmt), l = p ++ r → rightSs p = true → ∀ σ : St, getT σ.t 0 = .d (.sl 16 (ssAll l)) → getT σ.t 3 = vI p.length → WP X (.loop (lp Tryz.f52 0) σ K) Q
  | r, p, h, hp, σ, g0, g3 => by
    refine WP.round ⟨[(0, .d (.sl 16 (ssAll l))), (3, vI p.length)], []⟩ ⟨⟨.inl g0.symm, .inl g3.symm, trivial⟩, trivial⟩ ?_
    have hlen : l.length = p.length + r.length := by rw [h]; simp
    cases r with
    | nil =>
      refine WP.iteF (by rw [ssAll_len]; simp at hlen; simp; omega) ?_
      refine WP.leaf ⟨⟨[], []⟩, ⟨trivial, trivial⟩, hE (by rw [h]; simpa using hp)⟩
    | cons y r =>
      simp only [List.length_cons] at hlen
      refine WP.iteT (by rw [ssAll_len]; simp; omega) ?_
      refine WP.idx _ (by omega) (ssAll_get h) ?_
      refine WP.use1 (hD y (by rw [h]; simp)) ?_
      refine WP.ite (fun hx => ?_) (fun hx => ?_)
      · refine WP.leaf ⟨⟨[(2, .lit false)], []⟩, ⟨⟨.inl rfl, trivial⟩, trivial⟩, hR ?_⟩
        rw [h, rightSs_app, rightSs]
        simp at hx; simp [hx]
      · refine WP.leaf ?_
        refine rstmts_loop l hk hD K Q hE hR r (p ++ [y]) (by rw [h]; simp) (by rw [rightSs_app, hp]; simp at hx; simp [rightSs, hx]) _ rfl ?_
        show vI (IntKind.i64.wrap ((p.length : Int) + 1)) = _
        rw [wrapI (by omega) (by omega)]; simp
theorem rstmts_chk (l : List TStmt) (hk : l.length ≤ 1000000000) (hD : ∀ x ∈ l, Does X 87 [.agg (sD x)] [] (.ret (vB (rightS x)) [])) : Does X 52 [.d (.sl 16 (ssAll l))] [] (.ret (vB (rightSs l)) []) := by
  refine DoesQ.eq (DoesQ.of Tryz.func52 (by kernel_rfl) ?_)
  refine rstmts_loop l hk hD _ _ ?_ ?_ l [] rfl rfl _ rfl rfl
  · intro h; exact WP.leaf (by rw [h])
  · intro h; exact WP.leaf (by rw [h])
theorem rstmt_chk (hX : LibX X) : ∀ (n : Nat) (s : TStmt), SizeOf.sizeOf s < n → smS s → Does X 87 [.agg (sD s)] [] (.ret (vB (rightS s)) [])
  | 0, e, h, _ => absurd h (Nat.not_lt_zero _)
  | n + 1, .mk k a nm e body els he, hn, hs => by
    simp only [smS] at hs
    obtain ⟨h1, h2, h3, h4, h5, h6⟩ := hs
    simp only [TStmt.mk.sizeOf_spec] at hn
    have hb := rstmts_chk (X := X) body h3 (fun x hx => rstmt_chk hX n x (by have := List.sizeOf_lt_of_mem hx; omega) (smSs_mem h5 hx))
    have hl := rstmts_chk (X := X) els h4 (fun x hx => rstmt_chk hX n x (by have := List.sizeOf_lt_of_mem hx; omega) (smSs_mem h6 hx))
    have hw := rword (X := X) nm h1
    have hr := rright_does hX (SizeOf.sizeOf e + 1) e (Nat.lt_succ_self _) h2
    have hN := rnothing_does (X := X) e
    have e1 := ssAll_len body
    have e2 := ssAll_len els
    have e3 : body.length = 0 → rightSs body = true := fun h => by rw [List.length_eq_zero_iff.1 h, rightSs]
    have e4 : els.length = 0 → rightSs els = true := fun h => by rw [List.length_eq_zero_iff.1 h, rightSs]
    refine DoesQ.eq (DoesQ.of Tryz.func87 (by kernel_rfl) ?_)
    clear hn h1 h2 h3 h4 h5 h6
    dsimp only [sD, TStmt.k, TStmt.a, TStmt.nm, TStmt.e, TStmt.body, TStmt.els, TStmt.he]
    rw [rightS]
    repeat' first | refine WP.iteT (by assumption) ?_ | refine WP.iteF (by assumption) ?_ | refine WP.ite (fun _ => ?_) (fun _ => ?_) | refine WP.leaf ?_ | refine WP.use1 hb ?_ | refine WP.use1 hl ?_ | refine WP.use1 hr ?_ | refine WP.use1 hw ?_ | refine WP.use1 hN ?_ | refine WP.asrt (by kernel_rfl) ?_
    all_goals
      clear hw hb hl hr hN hX
      refine congrArg (fun b => Out.ret (vB b) []) ?_
      unfold rightSN
      simp_all [bytes_empty]
theorem qI_loop (l : List TIncl) (hk : l.length ≤ 1000000000) (hD : ∀ x ∈ l, x.nm.size ≤ 1048576) (m : TMod) (hm : m.is = l) (K : Ex → St → Id.T Out) (Q : Out → Prop)
    (hE : l.all rightI = true → WP X (K (.exit 0) ⟨[(1, .box 1 0)], [(1, mV m)]⟩) Q) (hR : l.all rightI = false → WP X (K .ret ⟨[(2, .lit false)], []⟩) Q) :
    ∀ (r p : List TIncl), l = p ++ r → p.all rightI = true → ∀ σ : St, getT σ.t 1 = .box 1 0 → getB σ.b 1 = some (mV m) → getT σ.t 3 = vI p.length → WP X (.loop (lp Tryz.f26 0) σ K) Q
  | r, p, h, hp, σ, g1, gb, g3 => by
    refine WP.round ⟨[(1, .box 1 0), (3, vI p.length)], [(1, mV m)]⟩ ⟨⟨.inl g1.symm, .inl g3.symm, trivial⟩, ⟨WkB.box gb, trivial⟩⟩ ?_
    have hlen : l.length = p.length + r.length := by rw [h]; simp
    cases r with
    | nil =>
      refine WP.iteF (by simp at hlen; simp [hm]; omega) ?_
      refine WP.leaf ⟨⟨[(1, .box 1 0)], [(1, mV m)]⟩, ⟨⟨.inl rfl, trivial⟩, ⟨WkB.box rfl, trivial⟩⟩, hE (by rw [h]; simpa using hp)⟩
    | cons y r =>
      simp only [List.length_cons] at hlen
      have hw := rword (X := X) y.nm (hD y (by rw [h]; simp))
      refine WP.iteT (by simp [hm]; omega) ?_
      refine WP.idx _ (by omega) (map_get _ (hm.trans h)) ?_
      have hgo : rightI y = true → ∀ σ : St, getT σ.t 1 = .box 1 0 → getB σ.b 1 = some (mV m) → getT σ.t 3 = vI (IntKind.i64.wrap ((p.length : Int) + 1)) → WP X (.loop (lp Tryz.f26 0) σ K) Q := fun hy σ e1 eb e14 => by
        refine qI_loop l hk hD m hm K Q hE hR r (p ++ [y]) (by rw [h]; simp) (by rw [all_app, hp]; simp [hy]) σ e1 eb ?_
        rw [e14, wrapI (by omega) (by omega)]; simp
      have hno : rightI y = false → WP X (K .ret ⟨[(2, .lit false)], []⟩) Q := fun hy => hR (by rw [h, all_app]; simp [hy])
      refine WP.use1 hw ?_
      repeat' first | refine WP.iteT (by assumption) ?_ | refine WP.iteF (by assumption) ?_ | refine WP.ite (fun _ => ?_) (fun _ => ?_) | refine WP.idx _ (by omega) (map_get _ (hm.trans h)) ?_ | refine WP.leaf ?_
      all_goals first
        | exact ⟨⟨[(2, .lit false)], []⟩, ⟨⟨.inl rfl, trivial⟩, trivial⟩, hno (by unfold rightI; simp_all <;> omega)⟩
        | exact hgo (by unfold rightI; simp_all <;> omega) _ rfl rfl rfl
theorem qC_loop (hX : LibX X) (l : List TCons) (hk : l.length ≤ 1000000000) (hD : ∀ c ∈ l, c.nm.size ≤ 1048576 ∧ smE c.e) (m : TMod) (hm : m.cs = l) (K : Ex → St → Id.T Out) (Q : Out → Prop)
    (hE : l.all rightC = true → WP X (K (.exit 2) ⟨[(1, .box 1 0)], [(1, mV m)]⟩) Q) (hR : l.all rightC = false → WP X (K .ret ⟨[(2, .lit false)], []⟩) Q) :
    ∀ (r p : List TCons), l = p ++ r → p.all rightC = true → ∀ σ : St, getT σ.t 1 = .box 1 0 → getB σ.b 1 = some (mV m) → getT σ.t 4 = vI p.length → WP X (.loop (lp Tryz.f26 1) σ K) Q
  | r, p, h, hp, σ, g1, gb, g3 => by
    refine WP.round ⟨[(1, .box 1 0), (4, vI p.length)], [(1, mV m)]⟩ ⟨⟨.inl g1.symm, .inl g3.symm, trivial⟩, ⟨WkB.box gb, trivial⟩⟩ ?_
    have hlen : l.length = p.length + r.length := by rw [h]; simp
    cases r with
    | nil =>
      refine WP.iteF (by simp at hlen; simp [hm]; omega) ?_
      refine WP.leaf ⟨⟨[(1, .box 1 0)], [(1, mV m)]⟩, ⟨⟨.inl rfl, trivial⟩, ⟨WkB.box rfl, trivial⟩⟩, hE (by rw [h]; simpa using hp)⟩
    | cons y r =>
      simp only [List.length_cons] at hlen
      have hy := hD y (by rw [h]; simp)
      have hw := rword (X := X) y.nm hy.1
      have hr := rright_does hX (SizeOf.sizeOf y.e + 1) y.e (Nat.lt_succ_self _) hy.2
      refine WP.iteT (by simp [hm]; omega) ?_
      refine WP.idx _ (by omega) (map_get _ (hm.trans h)) ?_
      have hgo : rightC y = true → ∀ σ : St, getT σ.t 1 = .box 1 0 → getB σ.b 1 = some (mV m) → getT σ.t 4 = vI (IntKind.i64.wrap ((p.length : Int) + 1)) → WP X (.loop (lp Tryz.f26 1) σ K) Q := fun hy σ e1 eb e14 => by
        refine qC_loop hX l hk hD m hm K Q hE hR r (p ++ [y]) (by rw [h]; simp) (by rw [all_app, hp]; simp [hy]) σ e1 eb ?_
        rw [e14, wrapI (by omega) (by omega)]; simp
      have hno : rightC y = false → WP X (K .ret ⟨[(2, .lit false)], []⟩) Q := fun hy => hR (by rw [h, all_app]; simp [hy])
      refine WP.use1 hw ?_
      repeat' first | refine WP.iteT (by assumption) ?_ | refine WP.iteF (by assumption) ?_ | refine WP.ite (fun _ => ?_) (fun _ => ?_) | refine WP.idx _ (by omega) (map_get _ (hm.trans h)) ?_ | refine WP.use1 hr ?_ | refine WP.leaf ?_
      all_goals first
        | exact ⟨⟨[(2, .lit false)], []⟩, ⟨⟨.inl rfl, trivial⟩, trivial⟩, hno (by unfold rightC; simp_all)⟩
        | exact hgo (by unfold rightC; simp_all) _ rfl rfl rfl
theorem qP_loop {β : Type} (f : TFunc) (l : List TParam) (hf : f.ps = l) (hk : l.length ≤ 1000000000) (hD : ∀ p ∈ l, p.nm.size ≤ 1048576) (m : TMod) (n5 : Int) (K : Ex → St → Id.T β) (Q : β → Prop)
    (hE : l.all rightP = true → WP X (K (.exit 6) ⟨[(1, .box 1 0), (5, vI n5)], [(1, mV m)]⟩) Q) (hR : l.all rightP = false → WP X (K .ret ⟨[(2, .lit false)], []⟩) Q) :
    ∀ (r p : List TParam), l = p ++ r → p.all rightP = true → ∀ σ : St, getT σ.t 1 = .box 1 0 → getT σ.t 5 = vI n5 → getT σ.t 6 = .box 6 0 → getT σ.t 7 = vI p.length → getB σ.b 1 = some (mV m) → getB σ.b 6 = some [vS f.nm, vB f.ex, vI f.a, .d (.sl 2 (psD f.ps)), vI f.res, .d (.sl 16 (ssAll f.body))] → WP X (.loop (lp Tryz.f26 3) σ K) Q
  | r, p, h, hp, σ, g1, g5, g6, g7, gb, gb6 => by
    refine WP.round ⟨[(1, .box 1 0), (5, vI n5), (6, .box 6 0), (7, vI p.length)], [(1, mV m), (6, [vS f.nm, vB f.ex, vI f.a, .d (.sl 2 (psD f.ps)), vI f.res, .d (.sl 16 (ssAll f.body))])]⟩ ⟨⟨.inl g1.symm, .inl g5.symm, .inl g6.symm, .inl g7.symm, trivial⟩, ⟨WkB.box gb, WkB.box gb6, trivial⟩⟩ ?_
    have hlen : l.length = p.length + r.length := by rw [h]; simp
    cases r with
    | nil =>
      refine WP.iteF (by simp at hlen; simp [hf]; omega) ?_
      refine WP.leaf ⟨⟨[(1, .box 1 0), (5, vI n5)], [(1, mV m)]⟩, ⟨⟨.inl rfl, .inl rfl, trivial⟩, ⟨WkB.box rfl, trivial⟩⟩, hE (by rw [h]; simpa using hp)⟩
    | cons y r =>
      simp only [List.length_cons] at hlen
      have hw := rword (X := X) y.nm (hD y (by rw [h]; simp))
      refine WP.iteT (by simp [hf]; omega) ?_
      refine WP.idx _ (by omega) (map_get pD (hf.trans h)) ?_
      have hgo : rightP y = true → ∀ σ : St, getT σ.t 1 = .box 1 0 → getT σ.t 5 = vI n5 → getT σ.t 6 = .box 6 0 → getT σ.t 7 = vI (IntKind.i64.wrap ((p.length : Int) + 1)) → getB σ.b 1 = some (mV m) → getB σ.b 6 = some [vS f.nm, vB f.ex, vI f.a, .d (.sl 2 (psD f.ps)), vI f.res, .d (.sl 16 (ssAll f.body))] → WP X (.loop (lp Tryz.f26 3) σ K) Q := fun hy σ e1 e5 e6 e7 eb eb6 => by
        refine qP_loop f l hf hk hD m n5 K Q hE hR r (p ++ [y]) (by rw [h]; simp) (by rw [all_app, hp]; simp [hy]) σ e1 e5 e6 ?_ eb eb6
        rw [e7, wrapI (by omega) (by omega)]; simp
      have hno : rightP y = false → WP X (K .ret ⟨[(2, .lit false)], []⟩) Q := fun hy => hR (by rw [h, all_app]; simp [hy])
      refine WP.use1 hw ?_
      repeat' first | refine WP.iteT (by assumption) ?_ | refine WP.iteF (by assumption) ?_ | refine WP.ite (fun _ => ?_) (fun _ => ?_) | refine WP.idx _ (by omega) (map_get pD (hf.trans h)) ?_ | refine WP.leaf ?_
      all_goals first
        | exact ⟨⟨[(2, .lit false)], []⟩, ⟨⟨.inl rfl, trivial⟩, trivial⟩, hno (by unfold rightP; simp_all <;> omega)⟩
        | exact hgo (by unfold rightP; simp_all <;> omega) _ rfl rfl rfl rfl rfl rfl
theorem qF_loop (hX : LibX X) (l : List TFunc) (hk : l.length ≤ 1000000000) (hD : ∀ f ∈ l, SmF f) (m : TMod) (hm : m.fs = l) (K : Ex → St → Id.T Out) (Q : Out → Prop)
    (hE : l.all rightF = true → WP X (K (.exit 4) ⟨[], []⟩) Q) (hR : l.all rightF = false → WP X (K .ret ⟨[(2, .lit false)], []⟩) Q) :
    ∀ (r p : List TFunc), l = p ++ r → p.all rightF = true → ∀ σ : St, getT σ.t 1 = .box 1 0 → getB σ.b 1 = some (mV m) → getT σ.t 5 = vI p.length → WP X (.loop (lp Tryz.f26 2) σ K) Q
  | r, p, h, hp, σ, g1, gb, g5 => by
    refine WP.round ⟨[(1, .box 1 0), (5, vI p.length)], [(1, mV m)]⟩ ⟨⟨.inl g1.symm, .inl g5.symm, trivial⟩, ⟨WkB.box gb, trivial⟩⟩ ?_
    have hlen : l.length = p.length + r.length := by rw [h]; simp
    cases r with
    | nil =>
      refine WP.iteF (by simp at hlen; simp [hm]; omega) ?_
      refine WP.leaf ⟨⟨[], []⟩, ⟨trivial, trivial⟩, hE (by rw [h]; simpa using hp)⟩
    | cons y r =>
      simp only [List.length_cons] at hlen
      have hy := hD y (by rw [h]; simp)
      have hw := rword (X := X) y.nm hy.nm
      have hb := rstmts_chk (X := X) y.body hy.nb (fun x hx => rstmt_chk hX (SizeOf.sizeOf x + 1) x (Nat.lt_succ_self _) (smSs_mem hy.body hx))
      refine WP.iteT (by simp [hm]; omega) ?_
      refine WP.idx _ (by omega) (map_get _ (hm.trans h)) ?_
      have hno : rightF y = false → WP X (K .ret ⟨[(2, .lit false)], []⟩) Q := fun hy => hR (by rw [h, all_app]; simp [hy])
      refine WP.use1 hw ?_
      repeat' first | refine WP.iteT (by assumption) ?_ | refine WP.iteF (by assumption) ?_ | refine WP.ite (fun _ => ?_) (fun _ => ?_) | refine WP.leaf ?_ | refine WP.use1 hb ?_
      all_goals first
        | exact ⟨⟨[(2, .lit false)], []⟩, ⟨⟨.inl rfl, trivial⟩, trivial⟩, hno (by unfold rightF; simp_all <;> omega)⟩
        | skip
      refine qP_loop y y.ps rfl hy.np hy.ps m p.length _ _ ?_ ?_ y.ps [] rfl rfl _ rfl rfl rfl rfl rfl rfl
      · intro ha
        refine WP.leaf ?_
        refine qF_loop hX l hk hD m hm K Q hE hR r (p ++ [y]) (by rw [h]; simp) (by rw [all_app, hp]; unfold rightF; simp_all) _ rfl rfl ?_
        show vI (IntKind.i64.wrap ((p.length : Int) + 1)) = _
        rw [wrapI (by omega) (by omega)]; simp
      · intro ha
        exact WP.leaf ⟨⟨[(2, .lit false)], []⟩, ⟨⟨.inl rfl, trivial⟩, trivial⟩, hno (by unfold rightF; simp_all)⟩
theorem rright_mod (hX : LibX X) (m : TMod) (hm : SmM m) : Does X 26 [.agg (mD m)] [] (.ret (vB (rightM m)) []) := by
  refine DoesQ.eq (DoesQ.of Tryz.func26 (by kernel_rfl) ?_)
  unfold rightM
  refine qI_loop m.is hm.ni hm.is m rfl _ _ ?_ ?_ m.is [] rfl rfl _ rfl rfl rfl
  · intro h1
    refine qC_loop hX m.cs hm.nc hm.cs m rfl _ _ ?_ ?_ m.cs [] rfl rfl _ rfl rfl rfl
    · intro h2
      refine qF_loop hX m.fs hm.nf hm.fs m rfl _ _ ?_ ?_ m.fs [] rfl rfl _ rfl rfl rfl
      · intro h3; exact WP.leaf (by rw [h1, h2, h3]; rfl)
      · intro h3; exact WP.leaf (by rw [h1, h2, h3]; rfl)
    · intro h2; exact WP.leaf (by rw [h1, h2]; rfl)
  · intro h1; exact WP.leaf (by rw [h1]; rfl)
end Go.Proofs.YtacfbgfphkfobaaGreatDoor.Id
/-! ## PaLawR -/
namespace Go.Proofs.YtacfbgfphkfobaaGreatDoor.Id
open Go
set_option linter.unusedVariables false
set_option linter.unusedSimpArgs false
variable {X : Given}
set_option maxHeartbeats 1000000 in
theorem rights_does (hX : LibX X) (m : TMod) (hm : SmM m ∧ ∀ i ∈ m.is, i.p.size ≤ 1048576) : Does (OrX X) 10 [.agg (mD m)] [] (.ret (vB true) []) := by
  have h1 := right_mod (OrX.lib hX) m hm.1
  have h2 := rright_mod (OrX.lib hX) m hm.1
  refine DoesQ.eq (DoesQ.of Tryz.func10 (by kernel_rfl) ?_)
  repeat first | refine WP.use1 h1 ?_ | refine WP.use1 h2 ?_ | refine WP.asrt (by kernel_rfl) ?_ | refine WP.iteT (by first | rfl | (simp; done) | (simp; omega)) ?_ | refine WP.iteF (by first | rfl | (simp; done) | (simp; omega)) ?_ | refine WP.use1 (awake_does hX) ?_
  exact WP.leaf (by simp)
end Go.Proofs.YtacfbgfphkfobaaGreatDoor.Id
/-! ## Bulk -/
namespace Go.Proofs.YtacfbgfphkfobaaGreatDoor.bulks

theorem one_le {H : Type} (d : DataW H) : 1 ≤ Rows.uptoBulk d := by
  cases d with
  | lit l => cases l <;> simp [Rows.uptoBulk]
  | nil => simp [Rows.uptoBulk]
  | ptr d => simp [Rows.uptoBulk]
  | slice elems spare => simp [Rows.uptoBulk]
  | agg parts => simp [Rows.uptoBulk]
  | iface t d => simp [Rows.uptoBulk]
  | map entries => simp [Rows.uptoBulk]
  | held h => simp [Rows.uptoBulk]

/-- a part's bulk is at most the whole's -/
theorem part_le {H : Type} {d : DataW H} {l : List (DataW H)} (h : d ∈ l) : Rows.uptoBulk d ≤ Rows.uptoBulkAll l := by
  induction l with
  | nil => cases h
  | cons x r ih =>
    simp only [Rows.uptoBulkAll]
    cases List.mem_cons.1 h with
    | inl e => subst e; omega
    | inr e => have := ih e; omega

theorem append {H : Type} (l r : List (DataW H)) : Rows.uptoBulkAll (l ++ r) = Rows.uptoBulkAll l + Rows.uptoBulkAll r := by
  induction l with
  | nil => simp [Rows.uptoBulkAll]
  | cons x l ih => simp only [List.cons_append, Rows.uptoBulkAll, ih]; omega

/-- so many values at the most -/
theorem length_le {H : Type} (l : List (DataW H)) : l.length ≤ Rows.uptoBulkAll l := by
  induction l with
  | nil => simp [Rows.uptoBulkAll]
  | cons x r ih => have := one_le x; simp only [Rows.uptoBulkAll, List.length_cons]; omega

/-- a slice's places, and what they hold -/
theorem slice_le {H : Type} (elems spare : List (DataW H)) : elems.length + spare.length + 1 ≤ Rows.uptoBulk (.slice elems spare) := by
  have h1 := length_le elems
  have h2 := length_le spare
  simp only [Rows.uptoBulk]
  omega
theorem slice_elems {H : Type} (elems spare : List (DataW H)) : Rows.uptoBulkAll elems + 1 ≤ Rows.uptoBulk (.slice elems spare) := by
  simp only [Rows.uptoBulk]
  omega

/-- a string's letters -/
theorem string_eq {H : Type} (bytes : List UInt8) : Rows.uptoBulk (DataW.lit (H := H) (.string bytes)) = bytes.length + 1 := by
  simp [Rows.uptoBulk]

/-- THE BOUND, as the builder hands it over ('hk') -/
theorem bound {H : Type} {l : List (DataW H)} (hk : Rows.uptoSmall H l = true) : Rows.uptoBulkAll l ≤ 1048576 := by
  simpa [Rows.uptoSmall] using hk

/-- ROOM: a slice of n elements of b bytes, grown by append: below the 2^48 bytes that append, make and a Builder bear. Here n up to 2^21, b up to 4,096: put your own numbers. -/
theorem room {n b : Nat} (hn : n ≤ 2097152) (hb : b ≤ 4096) : (n + n / 4 + 192) * b ≤ 281474976710656 := by
  have h : (n + n / 4 + 192) * b ≤ 2621632 * 4096 := Nat.mul_le_mul (by omega) hb
  omega

end Go.Proofs.YtacfbgfphkfobaaGreatDoor.bulks
/-! ## OpenTree -/
namespace Go.Proofs.YtacfbgfphkfobaaGreatDoor.Id
open Go Go.ChangeShapes Go.WideShapes
set_option linter.unusedVariables false
set_option linter.unusedSimpArgs false
section
variable {H : Type} {enc : TypeId × Value → H} {w : World}
noncomputable abbrev TR (enc : TypeId × Value → H) (w : World) (n t : Nat) (cs : List Value) : Option (DataW H × List MemPlace) := DataW.trod enc Tryz.prog w 0 (fun _ => true) true n t cs
theorem seen_cell {a : Addr} {v : Value} (h : w.cell? a = some v) : (seen w).h a.block a.off = some v := by
  have hs := World.cell?_spot h
  have hl := World.block_lt_of_cell? w _ h
  obtain ⟨b, o, s⟩ := a
  simp only at hs
  subst hs
  simp only [seen]
  rw [if_pos hl]; exact h
theorem add_block (a : Addr) (n : Nat) : (a.add n).block = a.block := by unfold Addr.add; split <;> rfl
theorem add_off (a : Addr) (n : Nat) : (a.add n).off = a.off + n := by
  unfold Addr.add
  split
  · omega
  · rfl
theorem RepDs.len {h : Id.H} : ∀ {ds : List D} {cs : List Value}, RepDs h ds cs → ds.length = cs.length
  | [], cs, e => by cases e; rfl
  | x :: r, cs, ⟨v, vs, e, _, q⟩ => by subst e; simp [q.len]
/-- the elements of a row -/
theorem trod_row {α : Type} (F : α → List D) (B : α → Prop) {z t e : Nat} (hz : 0 < z) (ht : Tryz.prog.underlying t = some (.slice e)) (hc : Tryz.prog.cellsOf e = z) {fuel : Nat} {cs : List Value} {x : DataW H × List MemPlace}
    (hel : ∀ n, n < fuel → ∀ cs x, TR enc w n e cs = some x → Rows.uptoBulk x.1 ≤ 1048576 → ∃ a, RepDs (seen w).h (F a) cs ∧ B a)
    (h : TR enc w fuel t cs = some x) (hb : Rows.uptoBulk x.1 ≤ 1048576) : ∃ (l : List α) (v : Value), cs = [v] ∧ RepD (seen w).h v (.sl z (l.map F)) ∧ (∀ a ∈ l, B a) ∧ l.length ≤ 1048576 := by
  rcases DataW.trod_slice ht h with ⟨rfl, rfl⟩ | ⟨a, len, cap, elems, rest, n, hn, rfl, rfl, hba, hl, hm, hlen, hes, hsp, hns⟩
  · exact ⟨[], _, rfl, RepD.sl0 z, fun _ h => (by cases h), by simp⟩
  · have hbulk : ∀ y ∈ elems, Rows.uptoBulk y.1 ≤ 1048576 := fun y hy => by
      have h1 := bulks.part_le (List.mem_map_of_mem (f := fun (x : DataW H × List MemPlace) => x.1) hy)
      have h2 := bulks.slice_elems (elems.map (·.1)) (rest.map (·.1))
      simp only at hb; omega
    have hall : ∀ i, i < len → ∃ a0, B a0 ∧ ∃ cs, RepDs (seen w).h (F a0) cs ∧ cs.length = z ∧ ∀ q, q < z → w.cell? (a.add (i * z + q)) = cs[q]? := fun i hi => by
      have h1 := hes i hi
      rw [List.getElem?_eq_getElem (by omega), Option.bind_eq_some_iff] at h1
      obtain ⟨cs, h2, h3⟩ := h1
      obtain ⟨a0, h4, h5⟩ := hel n (by omega) cs _ h3 (hbulk _ (List.getElem_mem _))
      obtain ⟨_, h6, h7⟩ := World.cells?_some h2
      rw [hc] at h6 h7
      exact ⟨a0, h5, cs, h4, h6, fun q hq => by rw [← h7 q hq, Addr.add_add]⟩
    have hex : ∀ m, m ≤ len → ∃ l : List α, l.length = m ∧ (∀ a0 ∈ l, B a0) ∧ ∀ (j : Nat) a0, l[j]? = some a0 → ∃ cs, RepDs (seen w).h (F a0) cs ∧ cs.length = z ∧ ∀ q, q < z → w.cell? (a.add (j * z + q)) = cs[q]? := by
      intro m
      induction m with
      | zero => exact fun _ => ⟨[], rfl, fun _ h => (by cases h), fun j a0 h => (by simp at h)⟩
      | succ m ih =>
        intro hm
        obtain ⟨l, h1, h2, h3⟩ := ih (by omega)
        obtain ⟨a0, g1, cs, g2, g3, g4⟩ := hall m (by omega)
        refine ⟨l ++ [a0], by simp [h1], fun b hb => ?_, fun j b hj => ?_⟩
        · rcases List.mem_append.1 hb with h | h
          · exact h2 b h
          · rw [List.mem_singleton] at h; subst h; exact g1
        · rcases Nat.lt_or_ge j m with h | h
          · rw [List.getElem?_append_left (by omega)] at hj; exact h3 j b hj
          · rw [List.getElem?_append_right (by omega), h1] at hj
            have : j - m = 0 := by
              rcases Nat.eq_zero_or_pos (j - m) with h | h
              · exact h
              · rw [List.getElem?_eq_none (by simp; omega)] at hj; cases hj
            rw [this] at hj
            cases hj
            obtain rfl : j = m := by omega
            exact ⟨cs, g2, g3, g4⟩
    obtain ⟨l, h1, h2, h3⟩ := hex len (Nat.le_refl _)
    refine ⟨l, _, rfl, ?_, h2, ?_⟩
    · have hcell : ∀ (j : Nat) es (i : Nat) y, (l.map F)[j]? = some es → es[i]? = some y → ∃ v, w.cell? (a.add (j * z + i)) = some v ∧ RepD (seen w).h v y := fun j es i y hj hi => by
        rw [List.getElem?_map, Option.map_eq_some_iff] at hj
        obtain ⟨a0, hj, rfl⟩ := hj
        obtain ⟨cs, g1, g2, g3⟩ := h3 j a0 hj
        obtain ⟨v, g4, g5⟩ := g1.get hi
        have hiz : i < z := by
          have := (List.getElem?_eq_some_iff.1 g4).1; omega
        exact ⟨v, by rw [g3 i hiz]; exact g4, g5⟩
      have hlm : (l.map F).length = len := by simp [h1]
      rw [← hlm]
      refine RepD.sl a cap z (l.map F) (fun j i => (w.cell? (a.add (j * z + i))).getD Go.undef) (fun hne => ?_) (by omega) (fun j es hj => ?_) (fun j es i y hj hi => ?_) (fun j es i y hj hi => ?_)
      · have hlen0 : 0 < len := by
          rw [← hlm]; exact List.length_pos_iff.2 hne
        obtain ⟨a0, _, cs, _, g3, g4⟩ := hall 0 hlen0
        have g5 := g4 0 hz
        rw [List.getElem?_eq_getElem (by omega)] at g5
        have := World.cell?_spot g5
        simpa [Addr.add] using this
      · rw [List.getElem?_map, Option.map_eq_some_iff] at hj
        obtain ⟨a0, hj, rfl⟩ := hj
        obtain ⟨cs, g1, g2, _⟩ := h3 j a0 hj
        rw [g1.len, g2]
      · obtain ⟨v, g1, g2⟩ := hcell j es i y hj hi
        have := seen_cell g1
        rw [add_block, add_off] at this
        rw [g1]; exact this
      · obtain ⟨v, g1, g2⟩ := hcell j es i y hj hi
        simp only [g1, Option.getD_some]; exact g2
    · have h4 := bulks.slice_le (elems.map (·.1)) (rest.map (·.1))
      simp only [List.length_map] at h4
      simp only at hb; omega
theorem cells1 {t : Nat} (c : Tryz.prog.cellsOf t = 1) {l : List Value} {i : Nat} {v : Value} (h : (l.drop i).take (Tryz.prog.cellsOf t) = [v]) : l[i]? = some v := by
  rw [c] at h
  have h1 : ((l.drop i).take 1)[0]? = some v := by rw [h]; rfl
  simpa using h1
theorem list_eq {α : Type} : ∀ {l r : List α}, l.length = r.length → (∀ (i : Nat) v, r[i]? = some v → l[i]? = some v) → l = r
  | [], [], _, _ => rfl
  | [], _ :: _, h, _ => by simp at h
  | _ :: _, [], h, _ => by simp at h
  | a :: l, b :: r, h, g => by
    have h0 := g 0 b rfl
    have h1 := list_eq (l := l) (r := r) (by simpa using h) (fun i v hv => by simpa using g (i + 1) v (by simpa using hv))
    simp at h0
    rw [h0, h1]
set_option maxRecDepth 100000 in
theorem trod_value {n : Nat} {cs : List Value} {x : DataW H × List MemPlace} (h : TR enc w n 39 cs = some x) : ∃ v : TVal, cs = [.int .i64 v.t, .int .i64 v.i, .bool v.b, .string v.s] ∧ v.s.size ≤ Rows.uptoBulk x.1 := by
  obtain ⟨xs, n', rfl, rfl, hl, hx, hf⟩ := DataW.trod_struct Tryz.underlying39 h
  have hl4 : cs.length = 4 := by rw [hl]; kernel_rfl
  have hx4 : xs.length = 4 := hx
  obtain ⟨z0, e0, _⟩ := DataW.trod_int (k := .i64) (by kernel_rfl) ((hf 0 _ rfl).trans (List.getElem?_eq_getElem (by omega)))
  obtain ⟨z1, e1, _⟩ := DataW.trod_int (k := .i64) (by kernel_rfl) ((hf 1 _ rfl).trans (List.getElem?_eq_getElem (by omega)))
  obtain ⟨b2, e2, _⟩ := DataW.trod_bool (by kernel_rfl) ((hf 2 _ rfl).trans (List.getElem?_eq_getElem (by omega)))
  obtain ⟨s3, e3, g3, _⟩ := DataW.trod_string (by kernel_rfl) ((hf 3 _ rfl).trans (List.getElem?_eq_getElem (by omega)))
  have k0 := cells1 (by kernel_rfl) e0
  have k1 := cells1 (by kernel_rfl) e1
  have k2 := cells1 (by kernel_rfl) e2
  have k3 := cells1 (by kernel_rfl) e3
  refine ⟨⟨z0, z1, b2, s3⟩, list_eq hl4 (fun i v hv => ?_), ?_⟩
  · match i with
    | 0 => cases hv; exact k0
    | 1 => cases hv; exact k1
    | 2 => cases hv; exact k2
    | 3 => cases hv; exact k3
    | n + 4 => simp at hv
  · have h1 := bulks.part_le (List.mem_map_of_mem (f := fun (x : DataW H × List MemPlace) => x.1) (List.getElem_mem (l := xs) (n := 3) (by omega)))
    have h2 : Rows.uptoBulk (DataW.agg (xs.map (·.1))) = Rows.uptoBulkAll (xs.map (·.1)) + 1 := by rw [Rows.uptoBulk]
    rw [g3] at h1
    simp only [bulks.string_eq] at h1
    have h3 : s3.data.toList.length = s3.size := by rw [Array.length_toList]; rfl
    simp only at h1 ⊢; omega
theorem bulk_part {xs : List (DataW H × List MemPlace)} {i : Nat} (h : i < xs.length) : Rows.uptoBulk (xs[i]).1 + 1 ≤ Rows.uptoBulk (DataW.agg (xs.map (·.1))) := by
  have h1 := bulks.part_le (List.mem_map_of_mem (f := fun (x : DataW H × List MemPlace) => x.1) (List.getElem_mem h))
  have h2 : Rows.uptoBulk (DataW.agg (xs.map (·.1))) = Rows.uptoBulkAll (xs.map (·.1)) + 1 := by rw [Rows.uptoBulk]
  omega
theorem bulk_str' {x : DataW H × List MemPlace} {s : ByteArray} (h : x = (.lit (.string s.data.toList), [])) : s.size ≤ Rows.uptoBulk x.1 := by
  subst h
  simp only [bulks.string_eq]
  have h3 : s.data.toList.length = s.size := by rw [Array.length_toList]; rfl
  omega
theorem dsAll_map : ∀ l : List TExpr, dsAll l = l.map dsOf
  | [] => rfl
  | x :: r => by rw [dsAll, dsAll_map r]; rfl
theorem smEs_of : ∀ {l : List TExpr}, (∀ e ∈ l, smE e) → smEs l
  | [], _ => trivial
  | x :: r, h => ⟨h x (by simp), smEs_of fun e he => h e (by simp [he])⟩
set_option maxRecDepth 100000 in
theorem trod_expr : ∀ (n : Nat) (cs : List Value) (x : DataW H × List MemPlace), TR enc w n 43 cs = some x → Rows.uptoBulk x.1 ≤ 1048576 → ∃ e : TExpr, RepDs (seen w).h (dsOf e) cs ∧ smE e := by
  intro n
  induction n using Nat.strongRecOn with
  | ind n ih =>
  intro cs x h hb
  obtain ⟨xs, n', rfl, rfl, hl, hx, hf⟩ := DataW.trod_struct Tryz.underlying43 h
  have hl4 : cs.length = 10 := by rw [hl]; kernel_rfl
  have hx4 : xs.length = 7 := hx
  obtain ⟨z0, e0, _⟩ := DataW.trod_int (k := .i64) (by kernel_rfl) ((hf 0 _ rfl).trans (List.getElem?_eq_getElem (by omega)))
  obtain ⟨z1, e1, _⟩ := DataW.trod_int (k := .i64) (by kernel_rfl) ((hf 1 _ rfl).trans (List.getElem?_eq_getElem (by omega)))
  obtain ⟨s2, e2, g2, _⟩ := DataW.trod_string (by kernel_rfl) ((hf 2 _ rfl).trans (List.getElem?_eq_getElem (by omega)))
  obtain ⟨s3, e3, g3, _⟩ := DataW.trod_string (by kernel_rfl) ((hf 3 _ rfl).trans (List.getElem?_eq_getElem (by omega)))
  obtain ⟨v4, e4, g4⟩ := trod_value ((hf 4 _ rfl).trans (List.getElem?_eq_getElem (by omega)))
  obtain ⟨z5, e5, _⟩ := DataW.trod_int (k := .i64) (by kernel_rfl) ((hf 5 _ rfl).trans (List.getElem?_eq_getElem (by omega)))
  have b2 := bulk_part (xs := xs) (i := 2) (by omega)
  have b3 := bulk_part (xs := xs) (i := 3) (by omega)
  have b6 := bulk_part (xs := xs) (i := 6) (by omega)
  have c2 := bulk_str' g2
  have c3 := bulk_str' g3
  obtain ⟨l, v6, e6, r6, m6, k6⟩ := trod_row dsOf smE (z := 10) (e := 43) (by decide) (by kernel_rfl) (by kernel_rfl) (fun n hn cs x hx hb => ih n (by omega) cs x hx hb) ((hf 6 _ rfl).trans (List.getElem?_eq_getElem (by omega))) (by simp only at hb; omega)
  have k0 := cells1 (by kernel_rfl) e0
  have k1 := cells1 (by kernel_rfl) e1
  have k2 := cells1 (by kernel_rfl) e2
  have k3 := cells1 (by kernel_rfl) e3
  have k5 := cells1 (by kernel_rfl) e5
  have k6' := cells1 (by kernel_rfl) e6
  have k4 : ∀ i, i < 4 → cs[4 + i]? = [Value.int .i64 v4.t, .int .i64 v4.i, .bool v4.b, .string v4.s][i]? := fun i hi => by
    have e4' : (cs.drop 4).take (Tryz.prog.cellsOf 39) = _ := e4
    rw [show Tryz.prog.cellsOf 39 = 4 by kernel_rfl] at e4'
    rw [← e4', List.getElem?_take, if_pos hi, List.getElem?_drop]
  obtain rfl : cs = [.int .i64 z0, .int .i64 z1, .string s2, .string s3, .int .i64 v4.t, .int .i64 v4.i, .bool v4.b, .string v4.s, .int .i64 z5, v6] := list_eq hl4 (fun i v hv => by
    match i with
    | 0 => cases hv; exact k0
    | 1 => cases hv; exact k1
    | 2 => cases hv; exact k2
    | 3 => cases hv; exact k3
    | 4 => cases hv; exact k4 0 (by decide)
    | 5 => cases hv; exact k4 1 (by decide)
    | 6 => cases hv; exact k4 2 (by decide)
    | 7 => cases hv; exact k4 3 (by decide)
    | 8 => cases hv; exact k5
    | 9 => cases hv; exact k6'
    | n + 10 => simp at hv)
  refine ⟨.mk z0 z1 s2 s3 v4 z5 l, ?_, ?_⟩
  · refine ⟨_, _, rfl, .int _ _, _, _, rfl, .int _ _, _, _, rfl, .str _, _, _, rfl, .str _, _, _, rfl, .int _ _, _, _, rfl, .int _ _, _, _, rfl, .bool _, _, _, rfl, .str _, _, _, rfl, .int _ _, _, _, rfl, ?_, rfl⟩
    rw [dsAll_map]; exact r6
  · simp only at hb
    exact ⟨by omega, by omega, by omega, smEs_of m6⟩
theorem okWide_agg {P : Program} {r : Reach} {b0 t : Nat} {fs : Array Field} {v : Value} (ht : P.underlying t = some (.struct fs)) (h : Value.okWide P w r b0 t v) : ∃ cs : Array Value, v = .agg cs := by
  simp only [Value.okWide, ht] at h
  obtain ⟨cs, h1, _⟩ := h
  exact ⟨cs, h1⟩
/-- an argument that is a row of bytes -/
theorem trod_bytes {n t e : Nat} {cs : List Value} {x : DataW H × List MemPlace} (ht : Tryz.prog.underlying t = some (.slice e)) (he : Tryz.prog.underlying e = some (.int .u8)) (hc : Tryz.prog.cellsOf e = 1) (h : TR enc w n t cs = some x) (hb : Rows.uptoBulk x.1 ≤ 1048576) :
    ∃ (bs : List UInt8) (v : Value), cs = [v] ∧ RepD (seen w).h v (.sl 1 (bs.map byteD)) ∧ bs.length ≤ 1048576 := by
  obtain ⟨l, v, h1, h2, _, h4⟩ := trod_row byteD (fun _ => True) (by decide) ht hc (fun n _ cs x hx _ => by
    obtain ⟨z, rfl, _, hw⟩ := DataW.trod_int he hx
    simp only [Lit.wf, Bool.and_eq_true, decide_eq_true_eq] at hw
    have h0 : (0 : Int) ≤ z := hw.1
    have h1 : z ≤ 255 := hw.2
    refine ⟨UInt8.ofNat z.toNat, ⟨_, _, rfl, ?_, rfl⟩, trivial⟩
    have e : ((UInt8.ofNat z.toNat).toNat : Int) = z := by
      rw [UInt8.toNat_ofNat']; omega
    rw [e]; exact .int _ _) h hb
  exact ⟨l, v, h1, h2, h4⟩
end
end Go.Proofs.YtacfbgfphkfobaaGreatDoor.Id
/-! ## OpenMod -/
namespace Go.Proofs.YtacfbgfphkfobaaGreatDoor.Id
open Go Go.ChangeShapes Go.WideShapes
set_option linter.unusedVariables false
set_option linter.unusedSimpArgs false
section
variable {H : Type} {enc : TypeId × Value → H} {w : World}
theorem RepDs.app {h : Id.H} : ∀ {a b : List D} {x y : List Value}, RepDs h a x → RepDs h b y → RepDs h (a ++ b) (x ++ y)
  | [], b, x, y, e, g => by cases e; exact g
  | d :: a, b, x, y, ⟨v, vs, e, p, q⟩, g => by subst e; exact ⟨v, vs ++ y, rfl, p, q.app g⟩
theorem RepDs.cut {h : Id.H} {a b c : List D} {l : List Value} (i j : Nat) (ha : RepDs h a (l.take i)) (hb : RepDs h b ((l.drop i).take j)) (hc : RepDs h c (l.drop (i + j))) : RepDs h (a ++ (b ++ c)) l := by
  have h1 := ha.app (hb.app hc)
  rw [← List.drop_drop, List.take_append_drop, List.take_append_drop] at h1
  exact h1
theorem RepDs.mk1 {h : Id.H} {d : D} {v : Value} (p : RepD h v d) : RepDs h [d] [v] := ⟨_, _, rfl, p, rfl⟩
theorem ssAll_map : ∀ l : List TStmt, ssAll l = l.map (fun s => sD s)
  | [] => by rw [ssAll]; rfl
  | x :: r => by rw [ssAll_cons, ssAll_map r]; rfl
theorem smSs_of : ∀ {l : List TStmt}, (∀ e ∈ l, smS e) → smSs l
  | [], _ => trivial
  | x :: r, h => ⟨h x (by simp), smSs_of fun e he => h e (by simp [he])⟩
theorem take_eq {α : Type} {l r : List α} {n : Nat} (hl : n ≤ l.length) (hr : r.length = n) (h : ∀ (i : Nat) v, r[i]? = some v → l[i]? = some v) : l.take n = r :=
  list_eq (by rw [List.length_take]; omega) fun i v hv => by
    have : i < n := by rw [← hr]; exact (List.getElem?_eq_some_iff.1 hv).1
    rw [List.getElem?_take, if_pos this]; exact h i v hv
theorem drop_eq {α : Type} {l r : List α} {n : Nat} (hl : l.length = n + r.length) (h : ∀ (i : Nat) v, r[i]? = some v → l[n + i]? = some v) : l.drop n = r :=
  list_eq (by rw [List.length_drop]; omega) fun i v hv => by rw [List.getElem?_drop]; exact h i v hv
set_option maxRecDepth 100000 in
theorem trod_stmt : ∀ (n : Nat) (cs : List Value) (x : DataW H × List MemPlace), TR enc w n 52 cs = some x → Rows.uptoBulk x.1 ≤ 1048576 → ∃ s : TStmt, RepDs (seen w).h (sD s) cs ∧ smS s := by
  intro n
  induction n using Nat.strongRecOn with
  | ind n ih =>
  intro cs x h hb
  obtain ⟨xs, n', rfl, rfl, hl, hx, hf⟩ := DataW.trod_struct Tryz.underlying52 h
  have hl4 : cs.length = 16 := by rw [hl]; kernel_rfl
  have hx4 : xs.length = 7 := hx
  have b2 := bulk_part (xs := xs) (i := 2) (by omega)
  have b3 := bulk_part (xs := xs) (i := 3) (by omega)
  have b4 := bulk_part (xs := xs) (i := 4) (by omega)
  have b5 := bulk_part (xs := xs) (i := 5) (by omega)
  simp only at hb
  obtain ⟨z0, e0, _⟩ := DataW.trod_int (k := .i64) (by kernel_rfl) ((hf 0 _ rfl).trans (List.getElem?_eq_getElem (by omega)))
  obtain ⟨z1, e1, _⟩ := DataW.trod_int (k := .i64) (by kernel_rfl) ((hf 1 _ rfl).trans (List.getElem?_eq_getElem (by omega)))
  obtain ⟨s2, e2, g2, _⟩ := DataW.trod_string (by kernel_rfl) ((hf 2 _ rfl).trans (List.getElem?_eq_getElem (by omega)))
  obtain ⟨e3, r3, m3⟩ := trod_expr _ _ _ ((hf 3 _ rfl).trans (List.getElem?_eq_getElem (by omega))) (by omega)
  obtain ⟨l4, v4, e4, r4, m4, k4⟩ := trod_row (fun s => sD s) smS (z := 16) (e := 52) (by decide) (by kernel_rfl) (by kernel_rfl) (fun n hn cs x hx hb => ih n (by omega) cs x hx hb) ((hf 4 _ rfl).trans (List.getElem?_eq_getElem (by omega))) (by omega)
  obtain ⟨l5, v5, e5, r5, m5, k5⟩ := trod_row (fun s => sD s) smS (z := 16) (e := 52) (by decide) (by kernel_rfl) (by kernel_rfl) (fun n hn cs x hx hb => ih n (by omega) cs x hx hb) ((hf 5 _ rfl).trans (List.getElem?_eq_getElem (by omega))) (by omega)
  obtain ⟨z6, e6, _⟩ := DataW.trod_bool (by kernel_rfl) ((hf 6 _ rfl).trans (List.getElem?_eq_getElem (by omega)))
  have c2 := bulk_str' g2
  have k0 := cells1 (by kernel_rfl) e0
  have k1 := cells1 (by kernel_rfl) e1
  have k2 := cells1 (by kernel_rfl) e2
  have k4' := cells1 (by kernel_rfl) e4
  have k5' := cells1 (by kernel_rfl) e5
  have k6 := cells1 (by kernel_rfl) e6
  have r3' : RepDs (seen w).h (dsOf e3) ((cs.drop 3).take (Tryz.prog.cellsOf 43)) := r3
  rw [show Tryz.prog.cellsOf 43 = 10 by kernel_rfl, dsOf_eq] at r3'
  refine ⟨.mk z0 z1 s2 e3 l4 l5 z6, ?_, ?_⟩
  · refine RepDs.cut (a := [cZ z0, cZ z1, .str s2]) (b := eD e3) (c := [.sl 16 (ssAll l4), .sl 16 (ssAll l5), .bool z6]) 3 10 ?_ r3' ?_
    · rw [take_eq (n := 3) (r := [.int .i64 z0, .int .i64 z1, .string s2]) (by omega) rfl (fun i v hv => by
        match i with
        | 0 => cases hv; exact k0
        | 1 => cases hv; exact k1
        | 2 => cases hv; exact k2
        | n + 3 => simp at hv)]
      exact ⟨_, _, rfl, .int _ _, _, _, rfl, .int _ _, _, _, rfl, .str _, rfl⟩
    · rw [drop_eq (n := 13) (r := [v4, v5, .bool z6]) (by rw [hl4]; rfl) (fun i v hv => by
        match i with
        | 0 => cases hv; exact k4'
        | 1 => cases hv; exact k5'
        | 2 => cases hv; exact k6
        | n + 3 => simp at hv)]
      rw [ssAll_map, ssAll_map]
      exact ⟨_, _, rfl, r4, _, _, rfl, r5, _, _, rfl, .bool _, rfl⟩
  · exact ⟨by omega, m3, by omega, by omega, smSs_of m4, smSs_of m5⟩
set_option maxRecDepth 100000 in
theorem trod_param (n : Nat) (cs : List Value) (x : DataW H × List MemPlace) (h : TR enc w n 54 cs = some x) (hb : Rows.uptoBulk x.1 ≤ 1048576) : ∃ p : TParam, RepDs (seen w).h (pD p) cs ∧ p.nm.size ≤ 1048576 := by
  obtain ⟨xs, n', rfl, rfl, hl, hx, hf⟩ := DataW.trod_struct Tryz.underlying54 h
  have hl4 : cs.length = 2 := by rw [hl]; kernel_rfl
  have hx4 : xs.length = 2 := hx
  have b0 := bulk_part (xs := xs) (i := 0) (by omega)
  simp only at hb
  obtain ⟨s0, e0, g0, _⟩ := DataW.trod_string (by kernel_rfl) ((hf 0 _ rfl).trans (List.getElem?_eq_getElem (by omega)))
  obtain ⟨z1, e1, _⟩ := DataW.trod_int (k := .i64) (by kernel_rfl) ((hf 1 _ rfl).trans (List.getElem?_eq_getElem (by omega)))
  have c0 := bulk_str' g0
  have k0 := cells1 (by kernel_rfl) e0
  have k1 := cells1 (by kernel_rfl) e1
  obtain rfl : cs = [.string s0, .int .i64 z1] := list_eq hl4 (fun i v hv => by
    match i with
    | 0 => cases hv; exact k0
    | 1 => cases hv; exact k1
    | n + 2 => simp at hv)
  exact ⟨⟨s0, z1⟩, ⟨_, _, rfl, .str _, _, _, rfl, .int _ _, rfl⟩, by simp only; omega⟩
set_option maxRecDepth 100000 in
theorem trod_incl (n : Nat) (cs : List Value) (x : DataW H × List MemPlace) (h : TR enc w n 56 cs = some x) (hb : Rows.uptoBulk x.1 ≤ 1048576) : ∃ p : TIncl, RepDs (seen w).h (iD p) cs ∧ (p.nm.size ≤ 1048576 ∧ p.p.size ≤ 1048576) := by
  obtain ⟨xs, n', rfl, rfl, hl, hx, hf⟩ := DataW.trod_struct Tryz.underlying56 h
  have hl4 : cs.length = 3 := by rw [hl]; kernel_rfl
  have hx4 : xs.length = 3 := hx
  have b0 := bulk_part (xs := xs) (i := 0) (by omega)
  have b1 := bulk_part (xs := xs) (i := 1) (by omega)
  simp only at hb
  obtain ⟨s0, e0, g0, _⟩ := DataW.trod_string (by kernel_rfl) ((hf 0 _ rfl).trans (List.getElem?_eq_getElem (by omega)))
  obtain ⟨s1, e1, g1, _⟩ := DataW.trod_string (by kernel_rfl) ((hf 1 _ rfl).trans (List.getElem?_eq_getElem (by omega)))
  obtain ⟨z2, e2, _⟩ := DataW.trod_int (k := .i64) (by kernel_rfl) ((hf 2 _ rfl).trans (List.getElem?_eq_getElem (by omega)))
  have c0 := bulk_str' g0
  have c1 := bulk_str' g1
  have k0 := cells1 (by kernel_rfl) e0
  have k1 := cells1 (by kernel_rfl) e1
  have k2 := cells1 (by kernel_rfl) e2
  obtain rfl : cs = [.string s0, .string s1, .int .i64 z2] := list_eq hl4 (fun i v hv => by
    match i with
    | 0 => cases hv; exact k0
    | 1 => cases hv; exact k1
    | 2 => cases hv; exact k2
    | n + 3 => simp at hv)
  exact ⟨⟨s0, s1, z2⟩, ⟨_, _, rfl, .str _, _, _, rfl, .str _, _, _, rfl, .int _ _, rfl⟩, by simp only; omega, by simp only; omega⟩
set_option maxRecDepth 100000 in
theorem trod_const (n : Nat) (cs : List Value) (x : DataW H × List MemPlace) (h : TR enc w n 45 cs = some x) (hb : Rows.uptoBulk x.1 ≤ 1048576) : ∃ c : TCons, RepDs (seen w).h (cD c) cs ∧ (c.nm.size ≤ 1048576 ∧ smE c.e) := by
  obtain ⟨xs, n', rfl, rfl, hl, hx, hf⟩ := DataW.trod_struct Tryz.underlying45 h
  have hl4 : cs.length = 13 := by rw [hl]; kernel_rfl
  have hx4 : xs.length = 4 := hx
  have b0 := bulk_part (xs := xs) (i := 0) (by omega)
  have b3 := bulk_part (xs := xs) (i := 3) (by omega)
  simp only at hb
  obtain ⟨s0, e0, g0, _⟩ := DataW.trod_string (by kernel_rfl) ((hf 0 _ rfl).trans (List.getElem?_eq_getElem (by omega)))
  obtain ⟨z1, e1, _⟩ := DataW.trod_bool (by kernel_rfl) ((hf 1 _ rfl).trans (List.getElem?_eq_getElem (by omega)))
  obtain ⟨z2, e2, _⟩ := DataW.trod_int (k := .i64) (by kernel_rfl) ((hf 2 _ rfl).trans (List.getElem?_eq_getElem (by omega)))
  obtain ⟨e3, r3, m3⟩ := trod_expr _ _ _ ((hf 3 _ rfl).trans (List.getElem?_eq_getElem (by omega))) (by omega)
  have c0 := bulk_str' g0
  have k0 := cells1 (by kernel_rfl) e0
  have k1 := cells1 (by kernel_rfl) e1
  have k2 := cells1 (by kernel_rfl) e2
  have r3' : RepDs (seen w).h (dsOf e3) ((cs.drop 3).take (Tryz.prog.cellsOf 43)) := r3
  rw [show Tryz.prog.cellsOf 43 = 10 by kernel_rfl, dsOf_eq] at r3'
  refine ⟨⟨s0, z1, z2, e3⟩, ?_, by simp only; omega, m3⟩
  refine RepDs.cut (a := [.str s0, .bool z1, cZ z2]) (b := eD e3) (c := []) 3 10 ?_ r3' ?_
  · rw [take_eq (n := 3) (r := [.string s0, .bool z1, .int .i64 z2]) (by omega) rfl (fun i v hv => by
      match i with
      | 0 => cases hv; exact k0
      | 1 => cases hv; exact k1
      | 2 => cases hv; exact k2
      | n + 3 => simp at hv)]
    exact ⟨_, _, rfl, .str _, _, _, rfl, .bool _, _, _, rfl, .int _ _, rfl⟩
  · rw [drop_eq (n := 13) (r := []) (by rw [hl4]; rfl) (fun i v hv => by simp at hv)]
    rfl
set_option maxRecDepth 100000 in
theorem trod_func (n : Nat) (cs : List Value) (x : DataW H × List MemPlace) (h : TR enc w n 49 cs = some x) (hb : Rows.uptoBulk x.1 ≤ 1048576) : ∃ f : TFunc, RepDs (seen w).h (fD f) cs ∧ SmF f := by
  obtain ⟨xs, n', rfl, rfl, hl, hx, hf⟩ := DataW.trod_struct Tryz.underlying49 h
  have hl4 : cs.length = 6 := by rw [hl]; kernel_rfl
  have hx4 : xs.length = 6 := hx
  have b0 := bulk_part (xs := xs) (i := 0) (by omega)
  have b3 := bulk_part (xs := xs) (i := 3) (by omega)
  have b5 := bulk_part (xs := xs) (i := 5) (by omega)
  simp only at hb
  obtain ⟨s0, e0, g0, _⟩ := DataW.trod_string (by kernel_rfl) ((hf 0 _ rfl).trans (List.getElem?_eq_getElem (by omega)))
  obtain ⟨z1, e1, _⟩ := DataW.trod_bool (by kernel_rfl) ((hf 1 _ rfl).trans (List.getElem?_eq_getElem (by omega)))
  obtain ⟨z2, e2, _⟩ := DataW.trod_int (k := .i64) (by kernel_rfl) ((hf 2 _ rfl).trans (List.getElem?_eq_getElem (by omega)))
  obtain ⟨l3, v3, e3, r3, m3, n3⟩ := trod_row (fun p => pD p) (fun p : TParam => p.nm.size ≤ 1048576) (z := 2) (e := 54) (by decide) (by kernel_rfl) (by kernel_rfl) (fun n hn cs x hx hb => trod_param n cs x hx hb) ((hf 3 _ rfl).trans (List.getElem?_eq_getElem (by omega))) (by omega)
  obtain ⟨z4, e4, _⟩ := DataW.trod_int (k := .i64) (by kernel_rfl) ((hf 4 _ rfl).trans (List.getElem?_eq_getElem (by omega)))
  obtain ⟨l5, v5, e5, r5, m5, n5⟩ := trod_row (fun s => sD s) smS (z := 16) (e := 52) (by decide) (by kernel_rfl) (by kernel_rfl) (fun n hn cs x hx hb => trod_stmt n cs x hx hb) ((hf 5 _ rfl).trans (List.getElem?_eq_getElem (by omega))) (by omega)
  have c0 := bulk_str' g0
  have k0 := cells1 (by kernel_rfl) e0
  have k1 := cells1 (by kernel_rfl) e1
  have k2 := cells1 (by kernel_rfl) e2
  have k3 := cells1 (by kernel_rfl) e3
  have k4 := cells1 (by kernel_rfl) e4
  have k5 := cells1 (by kernel_rfl) e5
  obtain rfl : cs = [.string s0, .bool z1, .int .i64 z2, v3, .int .i64 z4, v5] := list_eq hl4 (fun i v hv => by
    match i with
    | 0 => cases hv; exact k0
    | 1 => cases hv; exact k1
    | 2 => cases hv; exact k2
    | 3 => cases hv; exact k3
    | 4 => cases hv; exact k4
    | 5 => cases hv; exact k5
    | n + 6 => simp at hv)
  rw [← ssAll_map] at r5
  exact ⟨⟨s0, z1, z2, l3, z4, l5⟩, ⟨_, _, rfl, .str _, _, _, rfl, .bool _, _, _, rfl, .int _ _, _, _, rfl, r3, _, _, rfl, .int _ _, _, _, rfl, r5, rfl⟩, ⟨by simp only; omega, by simp only; omega, m3, by simp only; omega, smSs_of m5⟩⟩
set_option maxRecDepth 100000 in
theorem trod_mod (n : Nat) (cs : List Value) (x : DataW H × List MemPlace) (h : TR enc w n 26 cs = some x) (hb : Rows.uptoBulk x.1 ≤ 1048576) : ∃ m : TMod, RepDs (seen w).h (mD m) cs ∧ (SmM m ∧ ∀ i ∈ m.is, i.p.size ≤ 1048576) := by
  obtain ⟨xs, n', rfl, rfl, hl, hx, hf⟩ := DataW.trod_struct Tryz.underlying26 h
  have hl4 : cs.length = 3 := by rw [hl]; kernel_rfl
  have hx4 : xs.length = 3 := hx
  have b0 := bulk_part (xs := xs) (i := 0) (by omega)
  have b1 := bulk_part (xs := xs) (i := 1) (by omega)
  have b2 := bulk_part (xs := xs) (i := 2) (by omega)
  simp only at hb
  obtain ⟨l0, v0, e0, r0, m0, n0⟩ := trod_row (fun p => iD p) (fun p : TIncl => p.nm.size ≤ 1048576 ∧ p.p.size ≤ 1048576) (z := 3) (e := 56) (by decide) (by kernel_rfl) (by kernel_rfl) (fun n hn cs x hx hb => trod_incl n cs x hx hb) ((hf 0 _ rfl).trans (List.getElem?_eq_getElem (by omega))) (by omega)
  obtain ⟨l1, v1, e1, r1, m1, n1⟩ := trod_row (fun p => cD p) (fun c : TCons => c.nm.size ≤ 1048576 ∧ smE c.e) (z := 13) (e := 45) (by decide) (by kernel_rfl) (by kernel_rfl) (fun n hn cs x hx hb => trod_const n cs x hx hb) ((hf 1 _ rfl).trans (List.getElem?_eq_getElem (by omega))) (by omega)
  obtain ⟨l2, v2, e2, r2, m2, n2⟩ := trod_row (fun p => fD p) SmF (z := 6) (e := 49) (by decide) (by kernel_rfl) (by kernel_rfl) (fun n hn cs x hx hb => trod_func n cs x hx hb) ((hf 2 _ rfl).trans (List.getElem?_eq_getElem (by omega))) (by omega)
  have k0 := cells1 (by kernel_rfl) e0
  have k1 := cells1 (by kernel_rfl) e1
  have k2 := cells1 (by kernel_rfl) e2
  obtain rfl : cs = [v0, v1, v2] := list_eq hl4 (fun i v hv => by
    match i with
    | 0 => cases hv; exact k0
    | 1 => cases hv; exact k1
    | 2 => cases hv; exact k2
    | n + 3 => simp at hv)
  exact ⟨⟨l0, l1, l2⟩, ⟨_, _, rfl, r0, _, _, rfl, r1, _, _, rfl, r2, rfl⟩, ⟨by simp only; omega, by simp only; omega, by simp only; omega, fun i hi => (m0 i hi).1, m1, m2⟩, fun i hi => (m0 i hi).2⟩
/-- an argument that is a row of texts -/
theorem trod_strs {n t e : Nat} {cs : List Value} {x : DataW H × List MemPlace} (ht : Tryz.prog.underlying t = some (.slice e)) (he : Tryz.prog.underlying e = some .string) (hc : Tryz.prog.cellsOf e = 1) (h : TR enc w n t cs = some x) (hb : Rows.uptoBulk x.1 ≤ 1048576) :
    ∃ (l : List ByteArray) (v : Value), cs = [v] ∧ RepD (seen w).h v (.sl 1 (l.map fun s => [.str s])) ∧ (∀ s ∈ l, s.size ≤ 1048576) ∧ l.length ≤ 1048576 :=
  trod_row (fun s => [.str s]) (fun s : ByteArray => s.size ≤ 1048576) (by decide) ht hc (fun n _ cs x hx hb => by
    obtain ⟨s, rfl, g, _⟩ := DataW.trod_string he hx
    have := bulk_str' g
    exact ⟨s, ⟨_, _, rfl, .str _, rfl⟩, by omega⟩) h hb
end
end Go.Proofs.YtacfbgfphkfobaaGreatDoor.Id
/-! ## ShelfNum -/
namespace Go.Proofs
open Go.Shelf
def Tryz.laysM173_ren : Go.Shelf.Ren := ⟨fun | 173 => 137 | 246 => 149 | 283 => 157 | 284 => 158 | 285 => 159 | 286 => 160 | 129 => 167 | 317 => 166 | 318 => 168 | 319 => 169 | 320 => 170 | 337 => 172 | 338 => 173 | n => n, fun | 2 => 2 | 3 => 3 | 9 => 9 | 4 => 4 | 171 => 184 | 0 => 0 | 53 => 148 | 37 => 95 | 5 => 5 | 173 => 187 | 212 => 195 | 51 => 196 | 20 => 20 | 213 => 197 | 46 => 162 | 232 => 204 | 233 => 205 | n => n, fun | 17 => 3 | 18 => 4 | 19 => 5 | n => n⟩
theorem Tryz.laysM173 : Go.Proofs.LaysM.n173 Tryz.prog Tryz.laysM173_ren := {
  mixed := by kernel_rfl
  f129 := Tryz.func167.trans (congrArg some (by kernel_rfl))
  f173 := Tryz.func137.trans (congrArg some (by kernel_rfl))
  f246 := Tryz.func149.trans (congrArg some (by kernel_rfl))
  f283 := Tryz.func157.trans (congrArg some (by kernel_rfl))
  f284 := Tryz.func158.trans (congrArg some (by kernel_rfl))
  f285 := Tryz.func159.trans (congrArg some (by kernel_rfl))
  f286 := Tryz.func160.trans (congrArg some (by kernel_rfl))
  f317 := Tryz.func166.trans (congrArg some (by kernel_rfl))
  f318 := Tryz.func168.trans (congrArg some (by kernel_rfl))
  f319 := Tryz.func169.trans (congrArg some (by kernel_rfl))
  f320 := Tryz.func170.trans (congrArg some (by kernel_rfl))
  f337 := Tryz.func172.trans (congrArg some (by kernel_rfl))
  f338 := Tryz.func173.trans (congrArg some (by kernel_rfl))
  t0 := Tryz.underlying0
  a0 := Tryz.isAgg0
  z0 := Tryz.sizeOf0
  v0 := Tryz.zeroValue0
  t2 := Tryz.underlying2
  a2 := Tryz.isAgg2
  z2 := Tryz.sizeOf2
  v2 := Tryz.zeroValue2
  t3 := Tryz.underlying3
  a3 := Tryz.isAgg3
  z3 := Tryz.sizeOf3
  v3 := Tryz.zeroValue3
  t4 := Tryz.underlying4
  a4 := Tryz.isAgg4
  z4 := Tryz.sizeOf4
  v4 := Tryz.zeroValue4
  t5 := Tryz.underlying5
  a5 := Tryz.isAgg5
  z5 := Tryz.sizeOf5
  v5 := Tryz.zeroValue5
  t9 := Tryz.underlying9
  a9 := Tryz.isAgg9
  z9 := Tryz.sizeOf9
  v9 := Tryz.zeroValue9
  t20 := Tryz.underlying20
  a20 := Tryz.isAgg20
  z20 := Tryz.sizeOf20
  v20 := Tryz.zeroValue20
  t37 := Tryz.underlying95
  a37 := Tryz.isAgg95
  z37 := Tryz.sizeOf95
  v37 := Tryz.zeroValue95
  t46 := Tryz.underlying162
  a46 := Tryz.isAgg162
  z46 := Tryz.sizeOf162
  v46 := Tryz.zeroValue162
  t51 := Tryz.underlying196
  a51 := Tryz.isAgg196
  z51 := Tryz.sizeOf196
  v51 := Tryz.zeroValue196
  t53 := Tryz.underlying148
  a53 := Tryz.isAgg148
  z53 := Tryz.sizeOf148
  v53 := Tryz.zeroValue148
  t171 := Tryz.underlying184
  a171 := Tryz.isAgg184
  z171 := Tryz.sizeOf184
  v171 := Tryz.zeroValue184
  t173 := Tryz.underlying187
  a173 := Tryz.isAgg187
  z173 := Tryz.sizeOf187
  v173 := Tryz.zeroValue187
  t212 := Tryz.underlying195
  a212 := Tryz.isAgg195
  z212 := Tryz.sizeOf195
  v212 := Tryz.zeroValue195
  t213 := Tryz.underlying197
  a213 := Tryz.isAgg197
  z213 := Tryz.sizeOf197
  t232 := Tryz.underlying204
  a232 := Tryz.isAgg204
  z232 := Tryz.sizeOf204
  v232 := Tryz.zeroValue204
  t233 := Tryz.underlying205
  a233 := Tryz.isAgg205
  z233 := Tryz.sizeOf205
  v233 := Tryz.zeroValue205
  g17 := by kernel_rfl
  g18 := by kernel_rfl
  g19 := by kernel_rfl
  i0 := by kernel_rfl
  i2 := by kernel_rfl
  i3 := by kernel_rfl
  i4 := by kernel_rfl
  i5 := by kernel_rfl
  i9 := by kernel_rfl
  i20 := by kernel_rfl
  i37 := by kernel_rfl
  i46 := by kernel_rfl
  i51 := by kernel_rfl
  i53 := by kernel_rfl
  i171 := by kernel_rfl
  i173 := by kernel_rfl
  i212 := by kernel_rfl
  i232 := by kernel_rfl
  i233 := by kernel_rfl
  m17 := by kernel_rfl
  m18 := by kernel_rfl
  m19 := by kernel_rfl }
open Go.RowKit Go.Sort Go.Lib in
/-- strconv.FormatInt: "FormatInt returns the string representation of i in the given base": AT BASE 10: i's decimal numeral, for every int64. (LAID: no walk: one application.) -/
theorem Tryz.strconv_FormatInt_10 (n : Int) (h0 : -9223372036854775808 ≤ n) (h1 : n ≤ 9223372036854775807) (w : World) (htab : Lib.TabIs Tryz.prog w "internal/strconv.uint64pow10" .u64 Lib.pow10Tab) :
    Calls Tryz.prog 137 #[.int .i64 n, .int .i64 10] w fun e w' => e = .returned (.string ⟨(Lib.itoa n).toArray⟩) ∧ ∃ k os, w' = grow (w.drewN k) os := Any.strconv_FormatInt_10 Tryz.laysM173 n h0 h1 w htab
def Tryz.laysC174_ren : Go.Shelf.Ren := ⟨fun | 174 => 136 | 247 => 147 | 245 => 148 | 287 => 152 | 279 => 153 | 280 => 154 | 281 => 155 | 282 => 156 | 321 => 161 | 322 => 162 | 316 => 163 | 171 => 165 | 205 => 164 | 243 => 171 | 246 => 149 | 283 => 157 | 284 => 158 | 285 => 159 | 286 => 160 | 129 => 167 | 317 => 166 | 318 => 168 | 319 => 169 | 320 => 170 | 337 => 172 | 338 => 173 | n => n, fun | 9 => 9 | 3 => 3 | 2 => 2 | 75 => 126 | 85 => 167 | 4 => 4 | 167 => 177 | 5 => 5 | 53 => 148 | 175 => 178 | 46 => 162 | 168 => 180 | 37 => 95 | 0 => 0 | 210 => 191 | 21 => 21 | 127 => 151 | 145 => 202 | 143 => 200 | 171 => 184 | 173 => 187 | 212 => 195 | 51 => 196 | 20 => 20 | 213 => 197 | 232 => 204 | 233 => 205 | 80 => 129 | n => n, fun | 15 => 1 | 16 => 2 | 17 => 3 | 18 => 4 | 19 => 5 | n => n⟩
theorem Tryz.laysC174 : Go.Proofs.LaysC.n174 Tryz.prog Tryz.laysC174_ren := {
  mixed := by kernel_rfl
  f129 := Tryz.func167.trans (congrArg some (by kernel_rfl))
  f171 := Tryz.func165.trans (congrArg some (by kernel_rfl))
  f174 := Tryz.func136.trans (congrArg some (by kernel_rfl))
  f205 := Tryz.func164.trans (congrArg some (by kernel_rfl))
  f243 := Tryz.func171.trans (congrArg some (by kernel_rfl))
  f245 := Tryz.func148.trans (congrArg some (by kernel_rfl))
  f246 := Tryz.func149.trans (congrArg some (by kernel_rfl))
  f247 := Tryz.func147.trans (congrArg some (by kernel_rfl))
  f279 := Tryz.func153.trans (congrArg some (by kernel_rfl))
  f280 := Tryz.func154.trans (congrArg some (by kernel_rfl))
  f281 := Tryz.func155.trans (congrArg some (by kernel_rfl))
  f282 := Tryz.func156.trans (congrArg some (by kernel_rfl))
  f283 := Tryz.func157.trans (congrArg some (by kernel_rfl))
  f284 := Tryz.func158.trans (congrArg some (by kernel_rfl))
  f285 := Tryz.func159.trans (congrArg some (by kernel_rfl))
  f286 := Tryz.func160.trans (congrArg some (by kernel_rfl))
  f287 := Tryz.func152.trans (congrArg some (by kernel_rfl))
  f316 := Tryz.func163.trans (congrArg some (by kernel_rfl))
  f317 := Tryz.func166.trans (congrArg some (by kernel_rfl))
  f318 := Tryz.func168.trans (congrArg some (by kernel_rfl))
  f319 := Tryz.func169.trans (congrArg some (by kernel_rfl))
  f320 := Tryz.func170.trans (congrArg some (by kernel_rfl))
  f321 := Tryz.func161.trans (congrArg some (by kernel_rfl))
  f322 := Tryz.func162.trans (congrArg some (by kernel_rfl))
  f337 := Tryz.func172.trans (congrArg some (by kernel_rfl))
  f338 := Tryz.func173.trans (congrArg some (by kernel_rfl))
  t0 := Tryz.underlying0
  a0 := Tryz.isAgg0
  z0 := Tryz.sizeOf0
  v0 := Tryz.zeroValue0
  t2 := Tryz.underlying2
  a2 := Tryz.isAgg2
  z2 := Tryz.sizeOf2
  v2 := Tryz.zeroValue2
  t3 := Tryz.underlying3
  a3 := Tryz.isAgg3
  z3 := Tryz.sizeOf3
  v3 := Tryz.zeroValue3
  t4 := Tryz.underlying4
  a4 := Tryz.isAgg4
  z4 := Tryz.sizeOf4
  v4 := Tryz.zeroValue4
  t5 := Tryz.underlying5
  a5 := Tryz.isAgg5
  z5 := Tryz.sizeOf5
  v5 := Tryz.zeroValue5
  t9 := Tryz.underlying9
  a9 := Tryz.isAgg9
  z9 := Tryz.sizeOf9
  v9 := Tryz.zeroValue9
  t20 := Tryz.underlying20
  a20 := Tryz.isAgg20
  z20 := Tryz.sizeOf20
  v20 := Tryz.zeroValue20
  t21 := Tryz.underlying21
  a21 := Tryz.isAgg21
  z21 := Tryz.sizeOf21
  v21 := Tryz.zeroValue21
  t37 := Tryz.underlying95
  a37 := Tryz.isAgg95
  z37 := Tryz.sizeOf95
  v37 := Tryz.zeroValue95
  t46 := Tryz.underlying162
  a46 := Tryz.isAgg162
  z46 := Tryz.sizeOf162
  v46 := Tryz.zeroValue162
  t51 := Tryz.underlying196
  a51 := Tryz.isAgg196
  z51 := Tryz.sizeOf196
  v51 := Tryz.zeroValue196
  t53 := Tryz.underlying148
  a53 := Tryz.isAgg148
  z53 := Tryz.sizeOf148
  v53 := Tryz.zeroValue148
  t75 := Tryz.underlying126
  a75 := Tryz.isAgg126
  z75 := Tryz.sizeOf126
  v75 := Tryz.zeroValue126
  t85 := Tryz.underlying167
  a85 := Tryz.isAgg167
  z85 := Tryz.sizeOf167
  v85 := Tryz.zeroValue167
  t127 := Tryz.underlying151
  a127 := Tryz.isAgg151
  z127 := Tryz.sizeOf151
  v127 := Tryz.zeroValue151
  t143 := Tryz.underlying200
  a143 := Tryz.isAgg200
  z143 := Tryz.sizeOf200
  v143 := Tryz.zeroValue200
  t145 := Tryz.underlying202
  a145 := Tryz.isAgg202
  z145 := Tryz.sizeOf202
  v145 := Tryz.zeroValue202
  t167 := Tryz.underlying177
  a167 := Tryz.isAgg177
  z167 := Tryz.sizeOf177
  v167 := Tryz.zeroValue177
  t168 := Tryz.underlying180
  a168 := Tryz.isAgg180
  z168 := Tryz.sizeOf180
  v168 := Tryz.zeroValue180
  t171 := Tryz.underlying184
  a171 := Tryz.isAgg184
  z171 := Tryz.sizeOf184
  v171 := Tryz.zeroValue184
  t173 := Tryz.underlying187
  a173 := Tryz.isAgg187
  z173 := Tryz.sizeOf187
  v173 := Tryz.zeroValue187
  t175 := Tryz.underlying178
  a175 := Tryz.isAgg178
  z175 := Tryz.sizeOf178
  v175 := Tryz.zeroValue178
  t210 := Tryz.underlying191
  a210 := Tryz.isAgg191
  z210 := Tryz.sizeOf191
  v210 := Tryz.zeroValue191
  t212 := Tryz.underlying195
  a212 := Tryz.isAgg195
  z212 := Tryz.sizeOf195
  v212 := Tryz.zeroValue195
  t213 := Tryz.underlying197
  a213 := Tryz.isAgg197
  z213 := Tryz.sizeOf197
  t232 := Tryz.underlying204
  a232 := Tryz.isAgg204
  z232 := Tryz.sizeOf204
  v232 := Tryz.zeroValue204
  t233 := Tryz.underlying205
  a233 := Tryz.isAgg205
  z233 := Tryz.sizeOf205
  v233 := Tryz.zeroValue205
  g15 := by kernel_rfl
  g16 := by kernel_rfl
  g17 := by kernel_rfl
  g18 := by kernel_rfl
  g19 := by kernel_rfl
  t80 := Tryz.underlying129
  a80 := Tryz.isAgg129
  z80 := Tryz.sizeOf129
  v80 := Tryz.zeroValue129
  i0 := by kernel_rfl
  i2 := by kernel_rfl
  i3 := by kernel_rfl
  i4 := by kernel_rfl
  i5 := by kernel_rfl
  i9 := by kernel_rfl
  i20 := by kernel_rfl
  i21 := by kernel_rfl
  i37 := by kernel_rfl
  i46 := by kernel_rfl
  i51 := by kernel_rfl
  i53 := by kernel_rfl
  i75 := by kernel_rfl
  i80 := by kernel_rfl
  i85 := by kernel_rfl
  i127 := by kernel_rfl
  i143 := by kernel_rfl
  i145 := by kernel_rfl
  i167 := by kernel_rfl
  i168 := by kernel_rfl
  i171 := by kernel_rfl
  i173 := by kernel_rfl
  i175 := by kernel_rfl
  i210 := by kernel_rfl
  i212 := by kernel_rfl
  i232 := by kernel_rfl
  i233 := by kernel_rfl
  m15 := by kernel_rfl
  m16 := by kernel_rfl
  m17 := by kernel_rfl
  m18 := by kernel_rfl
  m19 := by kernel_rfl
  c0 := by kernel_rfl
  c2 := by kernel_rfl
  c3 := by kernel_rfl
  c4 := by kernel_rfl
  c5 := by kernel_rfl
  c9 := by kernel_rfl
  c20 := by kernel_rfl
  c21 := by kernel_rfl
  c37 := by kernel_rfl
  c46 := by kernel_rfl
  c51 := by kernel_rfl
  c53 := by kernel_rfl
  c75 := by kernel_rfl
  c80 := by kernel_rfl
  c85 := by kernel_rfl
  c127 := by kernel_rfl
  c143 := by kernel_rfl
  c145 := by kernel_rfl
  c167 := by kernel_rfl
  c168 := by kernel_rfl
  c171 := by kernel_rfl
  c173 := by kernel_rfl
  c175 := by kernel_rfl
  c210 := by kernel_rfl
  c212 := by kernel_rfl
  c213 := by kernel_rfl
  c232 := by kernel_rfl
  c233 := by kernel_rfl }
open Go.RowKit in
/-- strconv.ParseInt(s, 10, 0), AT EVERY STRING THAT SPELLS AN int64 ('Lib.parseIntB 64 s.data.toList = .ok v'): v, AND NO ERROR. (LAID: no walk: one application.) -/
theorem Tryz.strconv_ParseInt_10_at0_ok (s : ByteArray) (hmax : s.size ≤ 9223372036854775806) (v : Int) (h : Lib.parseIntB 64 s.data.toList = .ok v) (w : World) :
    Calls Tryz.prog 136 #[.string s, .int .i64 10, .int .i64 0] w fun e w' => e = .returned (.tuple #[.int .i64 v, .nilIface]) ∧ (w' = w ∨ ∃ t, w' = Lib.bytesWorld w 5 t) := Any.strconv_ParseInt_10_at0_ok Tryz.laysC174 s hmax v h w
open Go.RowKit in
/-- strconv.ParseInt(s, 10, 0), AT EVERY NUMERAL THAT NO int64 HOLDS: THE GREATEST OR THE LEAST int64, BY THE SIGN ('Lib.intSat 64'), AND AN ERROR THAT IS NOT nil: a *NumError in a new block N: {Func: "ParseInt", Num: s's bytes, Err: what the variable ErrRange holds}. Of what was there nothing has turned. (LAID: no walk: one application.) -/
theorem Tryz.strconv_ParseInt_10_at0_range (s : ByteArray) (hlim : s.size ≤ 281474976710656) (h : Lib.parseIntB 64 s.data.toList = .range) (ev : Value) (w : World) (hv : w.cell? ⟨2, 0, none⟩ = some ev) (hev : ev = .nilIface ∨ ∃ te pe, ev = .iface te pe) :
    Calls Tryz.prog 136 #[.string s, .int .i64 10, .int .i64 0] w fun e w' => ∃ N, e = .returned (.tuple #[.int .i64 (Lib.intSat 64 s.data.toList), .iface 180 (.pointer (some ⟨N, 0, none⟩))]) ∧ w.heap.size ≤ N ∧ w'.heap[N]? = some (.cells #[.string ⟨#[80, 97, 114, 115, 101, 73, 110, 116]⟩, .string s, ev] 191 (0, 0)) ∧ Below w.heap.size w w' := Any.strconv_ParseInt_10_at0_range Tryz.laysC174 s hlim h ev w hv hev
open Go.RowKit in
/-- strconv.ParseInt(s, 10, 64), AT EVERY STRING THAT SPELLS AN int64 ('Lib.parseIntB 64 s.data.toList = .ok v'): v, AND NO ERROR. (LAID: no walk: one application.) -/
theorem Tryz.strconv_ParseInt_10_at64_ok (s : ByteArray) (hmax : s.size ≤ 9223372036854775806) (v : Int) (h : Lib.parseIntB 64 s.data.toList = .ok v) (w : World) :
    Calls Tryz.prog 136 #[.string s, .int .i64 10, .int .i64 64] w fun e w' => e = .returned (.tuple #[.int .i64 v, .nilIface]) ∧ (w' = w ∨ ∃ t, w' = Lib.bytesWorld w 5 t) := Any.strconv_ParseInt_10_at64_ok Tryz.laysC174 s hmax v h w
open Go.RowKit in
/-- strconv.ParseInt(s, 10, 64), AT EVERY NUMERAL THAT NO int64 HOLDS: THE GREATEST OR THE LEAST int64, BY THE SIGN ('Lib.intSat 64'), AND AN ERROR THAT IS NOT nil: a *NumError in a new block N: {Func: "ParseInt", Num: s's bytes, Err: what the variable ErrRange holds}. Of what was there nothing has turned. (LAID: no walk: one application.) -/
theorem Tryz.strconv_ParseInt_10_at64_range (s : ByteArray) (hlim : s.size ≤ 281474976710656) (h : Lib.parseIntB 64 s.data.toList = .range) (ev : Value) (w : World) (hv : w.cell? ⟨2, 0, none⟩ = some ev) (hev : ev = .nilIface ∨ ∃ te pe, ev = .iface te pe) :
    Calls Tryz.prog 136 #[.string s, .int .i64 10, .int .i64 64] w fun e w' => ∃ N, e = .returned (.tuple #[.int .i64 (Lib.intSat 64 s.data.toList), .iface 180 (.pointer (some ⟨N, 0, none⟩))]) ∧ w.heap.size ≤ N ∧ w'.heap[N]? = some (.cells #[.string ⟨#[80, 97, 114, 115, 101, 73, 110, 116]⟩, .string s, ev] 191 (0, 0)) ∧ Below w.heap.size w w' := Any.strconv_ParseInt_10_at64_range Tryz.laysC174 s hlim h ev w hv hev
open Go.RowKit in
/-- strconv.ParseInt(s, 10, 32), AT EVERY STRING THAT SPELLS AN int32 ('Lib.parseIntB 32 s.data.toList = .ok v'): v, AND NO ERROR. (LAID: no walk: one application.) -/
theorem Tryz.strconv_ParseInt_10_at32_ok (s : ByteArray) (hmax : s.size ≤ 9223372036854775806) (v : Int) (h : Lib.parseIntB 32 s.data.toList = .ok v) (w : World) :
    Calls Tryz.prog 136 #[.string s, .int .i64 10, .int .i64 32] w fun e w' => e = .returned (.tuple #[.int .i64 v, .nilIface]) ∧ (w' = w ∨ ∃ t, w' = Lib.bytesWorld w 5 t) := Any.strconv_ParseInt_10_at32_ok Tryz.laysC174 s hmax v h w
open Go.RowKit in
/-- strconv.ParseInt(s, 10, 32), AT EVERY NUMERAL THAT NO int32 HOLDS: THE GREATEST OR THE LEAST int32, BY THE SIGN ('Lib.intSat 32'), AND AN ERROR THAT IS NOT nil: a *NumError in a new block N: {Func: "ParseInt", Num: s's bytes, Err: what the variable ErrRange holds}. Of what was there nothing has turned. (LAID: no walk: one application.) -/
theorem Tryz.strconv_ParseInt_10_at32_range (s : ByteArray) (hlim : s.size ≤ 281474976710656) (h : Lib.parseIntB 32 s.data.toList = .range) (ev : Value) (w : World) (hv : w.cell? ⟨2, 0, none⟩ = some ev) (hev : ev = .nilIface ∨ ∃ te pe, ev = .iface te pe) :
    Calls Tryz.prog 136 #[.string s, .int .i64 10, .int .i64 32] w fun e w' => ∃ N, e = .returned (.tuple #[.int .i64 (Lib.intSat 32 s.data.toList), .iface 180 (.pointer (some ⟨N, 0, none⟩))]) ∧ w.heap.size ≤ N ∧ w'.heap[N]? = some (.cells #[.string ⟨#[80, 97, 114, 115, 101, 73, 110, 116]⟩, .string s, ev] 191 (0, 0)) ∧ Below w.heap.size w w' := Any.strconv_ParseInt_10_at32_range Tryz.laysC174 s hlim h ev w hv hev
open Go.RowKit in
/-- strconv.ParseInt(s, 10, 16), AT EVERY STRING THAT SPELLS AN int16 ('Lib.parseIntB 16 s.data.toList = .ok v'): v, AND NO ERROR. (LAID: no walk: one application.) -/
theorem Tryz.strconv_ParseInt_10_at16_ok (s : ByteArray) (hmax : s.size ≤ 9223372036854775806) (v : Int) (h : Lib.parseIntB 16 s.data.toList = .ok v) (w : World) :
    Calls Tryz.prog 136 #[.string s, .int .i64 10, .int .i64 16] w fun e w' => e = .returned (.tuple #[.int .i64 v, .nilIface]) ∧ (w' = w ∨ ∃ t, w' = Lib.bytesWorld w 5 t) := Any.strconv_ParseInt_10_at16_ok Tryz.laysC174 s hmax v h w
open Go.RowKit in
/-- strconv.ParseInt(s, 10, 16), AT EVERY NUMERAL THAT NO int16 HOLDS: THE GREATEST OR THE LEAST int16, BY THE SIGN ('Lib.intSat 16'), AND AN ERROR THAT IS NOT nil: a *NumError in a new block N: {Func: "ParseInt", Num: s's bytes, Err: what the variable ErrRange holds}. Of what was there nothing has turned. (LAID: no walk: one application.) -/
theorem Tryz.strconv_ParseInt_10_at16_range (s : ByteArray) (hlim : s.size ≤ 281474976710656) (h : Lib.parseIntB 16 s.data.toList = .range) (ev : Value) (w : World) (hv : w.cell? ⟨2, 0, none⟩ = some ev) (hev : ev = .nilIface ∨ ∃ te pe, ev = .iface te pe) :
    Calls Tryz.prog 136 #[.string s, .int .i64 10, .int .i64 16] w fun e w' => ∃ N, e = .returned (.tuple #[.int .i64 (Lib.intSat 16 s.data.toList), .iface 180 (.pointer (some ⟨N, 0, none⟩))]) ∧ w.heap.size ≤ N ∧ w'.heap[N]? = some (.cells #[.string ⟨#[80, 97, 114, 115, 101, 73, 110, 116]⟩, .string s, ev] 191 (0, 0)) ∧ Below w.heap.size w w' := Any.strconv_ParseInt_10_at16_range Tryz.laysC174 s hlim h ev w hv hev
open Go.RowKit in
/-- strconv.ParseInt(s, 10, 8), AT EVERY STRING THAT SPELLS AN int8 ('Lib.parseIntB 8 s.data.toList = .ok v'): v, AND NO ERROR. (LAID: no walk: one application.) -/
theorem Tryz.strconv_ParseInt_10_at8_ok (s : ByteArray) (hmax : s.size ≤ 9223372036854775806) (v : Int) (h : Lib.parseIntB 8 s.data.toList = .ok v) (w : World) :
    Calls Tryz.prog 136 #[.string s, .int .i64 10, .int .i64 8] w fun e w' => e = .returned (.tuple #[.int .i64 v, .nilIface]) ∧ (w' = w ∨ ∃ t, w' = Lib.bytesWorld w 5 t) := Any.strconv_ParseInt_10_at8_ok Tryz.laysC174 s hmax v h w
open Go.RowKit in
/-- strconv.ParseInt(s, 10, 8), AT EVERY NUMERAL THAT NO int8 HOLDS: THE GREATEST OR THE LEAST int8, BY THE SIGN ('Lib.intSat 8'), AND AN ERROR THAT IS NOT nil: a *NumError in a new block N: {Func: "ParseInt", Num: s's bytes, Err: what the variable ErrRange holds}. Of what was there nothing has turned. (LAID: no walk: one application.) -/
theorem Tryz.strconv_ParseInt_10_at8_range (s : ByteArray) (hlim : s.size ≤ 281474976710656) (h : Lib.parseIntB 8 s.data.toList = .range) (ev : Value) (w : World) (hv : w.cell? ⟨2, 0, none⟩ = some ev) (hev : ev = .nilIface ∨ ∃ te pe, ev = .iface te pe) :
    Calls Tryz.prog 136 #[.string s, .int .i64 10, .int .i64 8] w fun e w' => ∃ N, e = .returned (.tuple #[.int .i64 (Lib.intSat 8 s.data.toList), .iface 180 (.pointer (some ⟨N, 0, none⟩))]) ∧ w.heap.size ≤ N ∧ w'.heap[N]? = some (.cells #[.string ⟨#[80, 97, 114, 115, 101, 73, 110, 116]⟩, .string s, ev] 191 (0, 0)) ∧ Below w.heap.size w w' := Any.strconv_ParseInt_10_at8_range Tryz.laysC174 s hlim h ev w hv hev
end Go.Proofs
/-! ## LibWhole -/
namespace Go.Proofs.YtacfbgfphkfobaaGreatDoor.P
open Go.RowKit
set_option linter.unusedVariables false
set_option linter.unusedSimpArgs false
/-- a fact put aside, so that a walk does not look into it -/
structure Put (p : Prop) : Prop where mk :: (out : p)
def bt (s : ByteArray) (i : Int) : Int := if h : i.toNat < s.size then ((s[i.toNat]'h).toNat : Int) else 0
theorem bt_at (s : ByteArray) (i : Int) (h : i.toNat < s.size) : ((s[i.toNat]'h).toNat : Int) = bt s i := by unfold bt; rw [dif_pos h]
theorem below_drewN (w : World) (k : Nat) : Below w.heap.size w (w.drewN k) := ⟨rfl, rfl, rfl, Nat.le_refl _, fun _ _ => rfl⟩
def isDigit (c : Int) : Bool := decide (48 ≤ c) && decide (c ≤ 57)
/-- of a text that begins with a digit: the number, and whether it is one that may be -/
def lex_whole.f (a0 : ByteArray) : Option (Int × Bool) :=
  match a0.data.toList with
  | [] => none
  | c :: _ => if isDigit (c.toNat : Int) = true ∧ a0.size ≤ 1099511627776 then
      match Lib.parseIntB 64 a0.data.toList with
      | .ok v => some (v, decide (Lib.itoa v = a0.data.toList))
      | .range => some (9223372036854775807, false)
      | _ => none
    else none


theorem digit_calls' (c : Int) (w : World) : Calls Tryz.prog 118 #[.int .u8 c] w fun e w' => e = .returned (.bool (isDigit c)) ∧ w' = w := by
  unfold isDigit
  by_cases h : 48 ≤ c <;> by_cases h' : c ≤ 57
  all_goals
    first | have h1 : decide (48 ≤ c) = true := decide_eq_true h | have h1 : decide (48 ≤ c) = false := decide_eq_false h
    first | have h2 : decide (c ≤ 57) = true := decide_eq_true h' | have h2 : decide (c ≤ 57) = false := decide_eq_false h'
    rw [h1, h2]
    clear h h'
    go_enter Tryz.func118, Tryz.ntmps118
    go_wp2
    go_ret
    exact ⟨by first | rfl | simp, rfl⟩
theorem parse_ok (s : ByteArray) (v : Int) (hs : s.size ≤ 1099511627776) (h : Lib.parseIntB 64 s.data.toList = .ok v) (w : World) :
    Calls Tryz.prog 136 #[.string s, .int .i64 10, .int .i64 64] w fun e w' => e = .returned (.tuple #[.int .i64 v, .nilIface]) ∧ Below w.heap.size w w' :=
  (Tryz.strconv_ParseInt_10_at64_ok s (by omega) v h w).mono fun e w' ⟨he, hw⟩ => ⟨he, by
    rcases hw with rfl | ⟨t, rfl⟩
    · exact Below.refl _ _
    · exact ⟨rfl, rfl, rfl, by rw [Lib.bytesWorld_size]; omega, fun j hj => Lib.bytesWorld_at_old w _ t j hj⟩⟩
theorem parse_range (s : ByteArray) (hs : s.size ≤ 1099511627776) (h : Lib.parseIntB 64 s.data.toList = .range) (c : UInt8) (r : List UInt8) (hl : s.data.toList = c :: r) (hd : isDigit (c.toNat : Int) = true) (w : World) (hI : Inv w) :
    Calls Tryz.prog 136 #[.string s, .int .i64 10, .int .i64 64] w fun e w' => (∃ t p, e = .returned (.tuple #[.int .i64 9223372036854775807, .iface t (.pointer (some p))])) ∧ Below w.heap.size w w' := by
  obtain ⟨ev, h1, h2⟩ := hI.rng
  have e1 : Lib.intSat 64 s.data.toList = 9223372036854775807 := by
    rw [hl]
    unfold Lib.intSat
    rw [if_neg]
    · rfl
    · simp only [List.head?_cons, Option.map_some, Option.some.injEq]
      intro hc
      unfold isDigit at hd
      simp only [Bool.and_eq_true, decide_eq_true_eq] at hd
      omega
  refine (Tryz.strconv_ParseInt_10_at64_range s (by omega) h ev w h1 h2).mono fun e w' ⟨N, he, _, _, hb⟩ => ?_
  rw [e1] at he
  exact ⟨⟨_, _, he⟩, hb⟩
theorem format_ok (v : Int) (h0 : -9223372036854775808 ≤ v) (h1 : v ≤ 9223372036854775807) (w : World) (hI : Inv w) :
    Calls Tryz.prog 137 #[.int .i64 v, .int .i64 10] w fun e w' => e = .returned (.string ⟨(Lib.itoa v).toArray⟩) ∧ Below w.heap.size w w' :=
  (Tryz.strconv_FormatInt_10 v h0 h1 w hI.pow).mono fun e w' ⟨he, k, os, hw⟩ => ⟨he, by
    rw [hw]
    have h2 : Below w.heap.size w (w.drewN k) := below_drewN w k
    refine h2.trans ?_
    exact ⟨rfl, rfl, rfl, by show (w.drewN k).heap.size ≤ ((w.drewN k).heap ++ os).size; rw [Array.size_append]; omega, fun j hj => by show ((w.drewN k).heap ++ os)[j]? = _; exact Array.getElem?_append_left hj⟩⟩
theorem parseIntB_range {l : List UInt8} {v : Int} (h : Lib.parseIntB 64 l = .ok v) : -9223372036854775808 ≤ v ∧ v ≤ 9223372036854775807 := by
  unfold Lib.parseIntB at h
  cases l with
  | nil => cases h
  | cons c r =>
    simp only at h
    split at h
    · cases h
    · cases h
    · rename_i u hu
      repeat' split at h
      all_goals first | (cases h; omega) | (simp at h; omega) | cases h
set_option maxHeartbeats 4000000 in
set_option maxRecDepth 100000 in
theorem lex_whole.calls (a0 : ByteArray) (r1 : Int) (r2 : Bool) (w : World) (h : lex_whole.f a0 = some (r1, r2)) (hI : Inv w) :
    Calls Tryz.prog 120 #[.string a0] w fun e w' => e = .returned (.tuple #[.int .i64 r1, .bool r2]) ∧ Below w.heap.size w w' := by
  unfold lex_whole.f at h
  cases hl : a0.data.toList with
  | nil => rw [hl] at h; cases h
  | cons c r =>
    rw [hl] at h
    dsimp only at h
    split at h
    · rename_i hc
      obtain ⟨hd, hs⟩ := hc
      have HI := Put.mk hI
      clear hI
      have HB := Put.mk (Below.refl w.heap.size w)
      cases hp : Lib.parseIntB 64 (c :: r) with
      | range =>
        rw [hp] at h
        cases h
        have HP := Lib.hid (parse_range a0 hs (by rw [hl]; exact hp) c r hl hd)
        clear hl hp hd hs
        go_enter Tryz.func120, Tryz.ntmps120
        go_wp2_with (go_at_call 136; refine (HP.out _ HI.out).mono ?_; rintro e w' ⟨⟨t, p, rfl⟩, hb⟩; have HB2 := Put.mk hb; clear hb)
        go_ret2
        exact ⟨rfl, HB2.out⟩
      | ok v =>
        rw [hp] at h
        dsimp only at h
        obtain ⟨hv0, hv1⟩ := parseIntB_range hp
        have HP := Lib.hid (parse_ok a0 v hs (by rw [hl]; exact hp))
        have h0 : 0 < a0.size := by
          have : a0.data.toList.length = a0.size := by obtain ⟨⟨l⟩⟩ := a0; rfl
          rw [hl] at this; simp at this; omega
        have hb0 : bt a0 0 = (c.toNat : Int) := by
          obtain ⟨⟨l⟩⟩ := a0
          simp only at hl
          subst hl
          unfold bt
          rw [dif_pos (show Int.toNat 0 < (⟨⟨c :: r⟩⟩ : ByteArray).size from h0)]; rfl
        have HD := Lib.hid (show isDigit (bt a0 0) = true by rw [hb0]; exact hd)
        have HF := Lib.hid (format_ok v hv0 hv1)
        have hx3 : ∀ h : 0 < a0.size, ((a0[0]'h).toNat : Int) = bt a0 0 := bt_at a0 0
        have qi3 : (0 < (a0.size : Int)) = True := eq_true (by omega)
        replace h0 := eq_true h0
        obtain ⟨h, hr2⟩ : r1 = v ∧ r2 = decide (Lib.itoa v = c :: r) := by
          injection h with h; injection h with h h'; exact ⟨h.symm, h'.symm⟩
        subst h
        by_cases he : Lib.itoa r1 = c :: r
        · have e1 : (Lib.itoa r1 == a0.toList) = true := by
            rw [beq_iff_eq, ByteArray.toList_eq, hl]; exact he
          rw [decide_eq_true he] at hr2
          subst hr2
          clear hl hp hd hs hb0 he hv0 hv1
          go_enter Tryz.func120, Tryz.ntmps120
          go_wp2_with (first
            | (go_at_call 136; refine (HP.out _).mono ?_; rintro e w' ⟨rfl, hb⟩; have HB2 := Put.mk hb; clear hb)
            | (go_at_call 137; refine (HF.out _ (Inv.below HI.out HB2.out)).mono ?_; rintro e w2 ⟨rfl, hb⟩; have HB3 := Put.mk (HB2.out.trans (hb.mono HB2.out.size)); clear hb)
            | (go_at_call 118; refine (digit_calls' _ _).mono ?_; rintro e w' ⟨rfl, rfl⟩; rw [HD.out]))
          go_ret2
          exact ⟨rfl, HB3.out⟩
        · have e1 : (Lib.itoa r1 == a0.toList) = false := by
            rw [beq_eq_false_iff_ne, ByteArray.toList_eq, hl]
            exact he
          rw [decide_eq_false he] at hr2
          subst hr2
          clear hl hp hd hs hb0 he hv0 hv1
          go_enter Tryz.func120, Tryz.ntmps120
          go_wp2_with (first
            | (go_at_call 136; refine (HP.out _).mono ?_; rintro e w' ⟨rfl, hb⟩; have HB2 := Put.mk hb; clear hb)
            | (go_at_call 137; refine (HF.out _ (Inv.below HI.out HB2.out)).mono ?_; rintro e w2 ⟨rfl, hb⟩; have HB3 := Put.mk (HB2.out.trans (hb.mono HB2.out.size)); clear hb)
            | (go_at_call 118; refine (digit_calls' _ _).mono ?_; rintro e w' ⟨rfl, rfl⟩; rw [HD.out]))
          go_ret2
          exact ⟨rfl, HB3.out⟩
      | _ => rw [hp] at h; cases h
    · cases h


def stringslite_IndexByte.f (a0 : ByteArray) (a1 : Int) : Option (Int) := some (Lib.indexByte a0.data.toList a1.toNat.toUInt8)


set_option maxHeartbeats 1000000 in
set_option maxRecDepth 100000 in
theorem stringslite_IndexByte.calls (a0 : ByteArray) (a1 : Int) (r : Int) (w : World) (h : stringslite_IndexByte.f a0 a1 = some r) :
    Calls Tryz.prog 134 #[.string a0, .int .u8 a1] w fun e w' => e = .returned (.int .i64 r) ∧ w' = w := by
  obtain rfl := Option.some.inj h
  go_enter Tryz.func134, Tryz.ntmps134
  go_wp2
  rw [run_callFunc_extern Tryz.func146 (by kernel_rfl) (by kernel_rfl) (by kernel_rfl) (e := Extern.BytealgIndexByte.indexByte) (by kernel_rfl), Lib.run_indexByteString]
  simp only [Result.andThen]
  rw [Oper.upon_value]
  go_wp2
  go_ret
  exact ⟨rfl, rfl⟩


end Go.Proofs.YtacfbgfphkfobaaGreatDoor.P
/-! ## LibOk -/
namespace Go.Proofs.YtacfbgfphkfobaaGreatDoor.Id
open Go
set_option linter.unusedVariables false
set_option linter.unusedSimpArgs false
section
variable {I : World → Prop} {B0 : Nat} {M : Nat → Prop} {x : Aux} {w w' : World}
theorem WSim.below (S : WSim I B0 M x [] w) (hI : Stable I B0) (hb : Go.RowKit.Below w.heap.size w w') : WSim I B0 M x [] w' :=
  { inv := hI w w' (fun k hk => by
      rcases Nat.lt_or_ge k w.heap.size with h | h
      · exact hb.block k h
      · have := S.big k (S.top k h); omega) hb.size S.inv
    big := S.big
    top := fun k hk => S.top k (by have := hb.size; omega)
    agree := fun k o v h => by
      have h1 := S.agree k o v h
      rw [cell_of_block (w := w) (hb.block k (cell_lt h1))]; exact h1
    box := fun i cs h => by cases h
    inj := fun i j cs ds h => by cases h
    zone := fun t k s e h => by
      obtain ⟨h1, h2, h3, ws, ty, h4, h5⟩ := S.zone t k s e h
      exact ⟨h1, h2, h3, ws, ty, by rw [hb.block k (heap_lt h4)]; exact h4, h5⟩
    zinj := S.zinj
    zbox := fun t k s e i cs h1 h2 => by cases h2 }
theorem Ext.below (S : WSim I B0 M x [] w) (hb : Go.RowKit.Below w.heap.size w w') : Ext M x w x w' :=
  ⟨hb.os, hb.tape, hb.output, hb.size, fun k hk => hb.block k (by
    rcases Nat.lt_or_ge k w.heap.size with h | h
    · exact h
    · exact absurd (S.top k h) hk), fun _ _ _ h => h, fun _ _ => rfl, fun _ _ => rfl⟩
end
theorem inv_stable {W : World} (hW : P.Inv W) : Stable P.Inv W.heap.size := fun w w' hk hs hw => by
  have hp : 3 < W.heap.size := by
    have h1 := hW.pow
    unfold Lib.TabIs World.var? at h1
    rw [P.gPow] at h1
    simp only [Option.bind_some] at h1
    rcases Nat.lt_or_ge 3 W.heap.size with h2 | h2
    · exact h2
    · rw [Array.getElem?_eq_none h2] at h1; cases h1
  have hr : 2 < W.heap.size := by
    obtain ⟨ev, h1, _⟩ := hW.rng
    exact World.block_lt_of_cell? W _ h1
  constructor
  · have h1 := hw.pow
    unfold Lib.TabIs World.var? at h1 ⊢
    rw [P.gPow] at h1 ⊢
    simp only [Option.bind_some] at h1 ⊢
    rw [hk _ hp]; exact h1
  · obtain ⟨ev, h1, h2⟩ := hw.rng
    exact ⟨ev, by rw [cell_of_block (w := w) (hk _ hr)]; exact h1, h2⟩
/-- what is given -/
def X0 : Given := fun f args bx o =>
  (f = 120 ∧ ∃ (s : ByteArray) (c : UInt8) (r : List UInt8), L s = c :: r ∧ (48 ≤ c.toNat ∧ c.toNat ≤ 57) ∧ s.size ≤ 1099511627776 ∧ Lib.parseIntB 64 (L s) ≠ Lib.NumEnd.syntax ∧ args = [vS s] ∧ bx = [] ∧ o = .ret (wholeV (L s)) []) ∨
  (f = 134 ∧ ∃ (s : ByteArray) (c : UInt8), args = [vS s, vC c] ∧ bx = [] ∧ o = .ret (vI (Lib.indexByte s.data.toList c)) [])
theorem x0_lib : LibX X0 := ⟨fun s c r h1 h2 h3 h4 => .inl ⟨rfl, s, c, r, h1, h2, h3, h4, rfl, rfl, rfl⟩, fun s c => .inr ⟨rfl, s, c, rfl, rfl, rfl⟩⟩
theorem rep_str {x : Aux} {s : ByteArray} {v : Value} (h : RepV x (vS s) v) : v = .string s := by
  have : RepD x.h v (.str s) := h
  cases this; rfl
theorem x0_ok {B0 : Nat} (hI : Stable P.Inv B0) : GivenOK Tryz.prog X0 P.Inv B0 := by
  rintro f args bx o (⟨rfl, s, c, r, h1, h2, h3, h4, rfl, rfl, rfl⟩ | ⟨rfl, s, c, rfl, rfl, rfl⟩)
  · refine ⟨⟨_, Tryz.func120, by kernel_rfl, rfl⟩, fun M x w vs hv S => ?_⟩
    obtain ⟨v, l, hl, hv, rfl⟩ := hv
    obtain rfl := rep_str hv
    obtain rfl : vs = #[.string s] := by cases vs; simp_all
    have key : ∃ r1 r2, P.lex_whole.f s = some (r1, r2) ∧ wholeV (L s) = .tuple [vI r1, vB r2] := by
      unfold P.lex_whole.f wholeV
      have h1' : s.data.toList = c :: r := h1
      rw [h1', h1]
      rw [h1] at h4
      simp only
      rw [if_pos ⟨by unfold P.isDigit; simp; omega, h3⟩]
      cases hp : Lib.parseIntB 64 (c :: r) with
      | ok v => exact ⟨_, _, rfl, rfl⟩
      | range => exact ⟨_, _, rfl, rfl⟩
      | _ => exact absurd hp h4
    obtain ⟨r1, r2, hf, hwv⟩ := key
    refine (P.lex_whole.calls s r1 r2 w hf S.inv).mono fun e w' ⟨he, hb⟩ => ?_
    refine ⟨x, Ext.below S hb, _, he, ?_, S.below hI hb⟩
    rw [hwv]
    exact ⟨#[.int .i64 r1, .bool r2], rfl, _, _, rfl, RepD.int _ _, _, _, rfl, RepD.bool _, rfl⟩
  · refine ⟨⟨_, Tryz.func134, by kernel_rfl, rfl⟩, fun M x w vs hv S => ?_⟩
    obtain ⟨v, l, hl, hv, v2, l2, rfl, hv2, rfl⟩ := hv
    obtain rfl := rep_str hv
    have e2 : v2 = .int .u8 (c.toNat : Int) := by
      have : RepD x.h v2 (.int .u8 (c.toNat : Int)) := hv2
      cases this; rfl
    subst e2
    obtain rfl : vs = #[.string s, .int .u8 (c.toNat : Int)] := by cases vs; simp_all
    refine (P.stringslite_IndexByte.calls s c.toNat (Lib.indexByte s.data.toList c) w (by unfold P.stringslite_IndexByte.f; simp)).mono fun e w' ⟨he, hb⟩ => ?_
    refine ⟨x, Ext.below S (hb ▸ Go.RowKit.Below.refl _ _), _, he, ?_, S.below hI (hb ▸ Go.RowKit.Below.refl _ _)⟩
    exact RepD.int _ _
theorem wf_i64 {a : Int} (h : (Lit.int .i64 a).wf = true) : -9223372036854775808 ≤ a ∧ a ≤ 9223372036854775807 := by
  simp only [Lit.wf, Bool.and_eq_true, decide_eq_true_eq] at h; exact h
theorem wf_u8 {a : Int} (h : (Lit.int .u8 a).wf = true) : 0 ≤ a ∧ a ≤ 255 := by
  simp only [Lit.wf, Bool.and_eq_true, decide_eq_true_eq] at h; exact h
theorem wf_u16 {a : Int} (h : (Lit.int .u16 a).wf = true) : 0 ≤ a ∧ a ≤ 65535 := by
  simp only [Lit.wf, Bool.and_eq_true, decide_eq_true_eq] at h; exact h
/-- a law that comes to true, as a row asks it -/
theorem row_does {w : World} (hI : P.Inv w) {f : FuncId} {args : List V} {vs : Array Value} (hargs : RepVs (seen w) args vs.toList) (h : Does (OrX X0) f args [] (.ret (vB true) [])) :
    Calls Tryz.prog f vs w fun e w' => e = .returned (.bool true) ∧ Go.RowKit.Below w.heap.size w w' := by
  have hS := inv_stable hI
  have hX := orX_ok mixed hS (x0_ok hS)
  obtain ⟨n, hn⟩ := h Out (fun o => .leaf o) (.ret (vB true) []) (Den.leaf _)
  obtain ⟨o, _, hC, hl⟩ := den_call hX (below_all mixed tt_ok hS hX n) hn
  obtain rfl : o = .ret (vB true) [] := by cases hl; rfl
  refine (hC _ (seen w) w vs hargs (seen_wsim hI)).mono fun e w' ⟨x', hE, rv, he, hr, _⟩ => ?_
  refine ⟨?_, ⟨hE.os, hE.tape, hE.output, hE.size, fun k hk => hE.blk k (by omega)⟩⟩
  rw [he]
  have : RepD x'.h rv (.bool true) := hr
  cases this
  rfl
end Go.Proofs.YtacfbgfphkfobaaGreatDoor.Id
/-! ## OpenI -/
namespace Go.Proofs.YtacfbgfphkfobaaGreatDoor.Opens
theorem bulk_str {H : Type} {s : ByteArray} {l : List (DataW H)} (h : (DataW.lit (.string s.data.toList)) ∈ l) (hk : Rows.uptoSmall H l = true) : s.size ≤ 1048576 := by
  have h1 := bulks.part_le h
  have h2 := bulks.bound hk
  rw [bulks.string_eq] at h1
  have e : s.data.toList.length = s.size := by rw [Array.length_toList]; rfl
  omega
theorem bulk_arg {H : Type} {d : DataW H} {l : List (DataW H)} (h : d ∈ l) (hk : Rows.uptoSmall H l = true) : Rows.uptoBulk d ≤ 1048576 := Nat.le_trans (bulks.part_le h) (bulks.bound hk)
end Go.Proofs.YtacfbgfphkfobaaGreatDoor.Opens
/-! ## LawParseRights -/
namespace Go.Proofs.YtacfbgfphkfobaaGreatDoor.parseRights
open Go.ChangeShapes Go.WideShapes Go.ChangeAt Go.RowKit
open Go.ChangeMaps (open_string shut_string)
set_option linter.unusedVariables false
set_option linter.unusedSimpArgs false
theorem own : ownKnob Tryz.prog.godebug = none := by kernel_rfl
theorem laidOut : laidOutB Tryz.prog = true := by kernel_rfl
set_option maxRecDepth 100000 in
theorem contract (H : Type) (enc : TypeId × Value → H) (W : World) (args : Array Value) (ds gs : List (DataW H)) (before : List MemPlace)
    (base : Nat) (hval0 : ∀ (j : Nat) t v, Tryz.f10.params[j]? = some t → args[j]? = some v → Value.okWide Tryz.prog W .any base t v)
    (hW : DataW.Whole enc Tryz.prog Tryz.f10.params.toList Rows.parseRightsSpec.vars false W args.toList ds gs before) (hk : Rows.uptoSmall H (ds ++ gs) = true) (hL0 : laidMetH Tryz.prog Rows.parseRightsUptoRow.laid W) :
    Calls Tryz.prog 10 args W fun e W' => ∃ v, e = .returned v ∧ Rows.parseRightsSpec.post enc Tryz.prog Tryz.f10 false true false false W args v W' := by
  have hval := hval0
  have hW' := hW
  obtain ⟨p, q, hA0, hV, rfl, hfz, hnd⟩ := hW
  have hA : DataW.TrodAll enc Tryz.prog W 0 (fun _ => true) true Tryz.f10.params.toList args.toList ds p := hA0
  rw [Tryz.params10] at hA hval
  obtain ⟨v0, vs0, d0, ds0, p0, q0, hargs, rfl, rfl, h0, r0⟩ := trodAll_cons hA
  obtain ⟨rfl, rfl, rfl⟩ := trodAll_nil r0
  obtain rfl : args = #[v0] := by cases args; simp_all
  obtain ⟨rfl, rfl⟩ := trodVars_none hV
  obtain ⟨cs0, rfl⟩ := Id.okWide_agg Tryz.underlying26 (hval 0 26 v0 rfl rfl)
  have k0 := h0
  have lt0 : ∀ x ∈ p0, x.block < W.heap.size := by obtain ⟨m, hm⟩ := k0; exact DataW.trod_lt m _ _ _ hm
  obtain ⟨m0, hm0⟩ := h0
  obtain ⟨a0, ra0, sm0⟩ := Id.trod_mod _ _ _ hm0 (Opens.bulk_arg (d := d0) (by simp) hk)
  have hL : laidMet Tryz.prog [("math/bits.deBruijn32tab", Rows.laid_math_bits_deBruijn32tab), ("math/bits.deBruijn64tab", Rows.laid_math_bits_deBruijn64tab), ("internal/strconv.uint64pow10", Rows.laid_internal_strconv_uint64pow10), ("strconv.ErrRange", Rows.laid_strconv_ErrRange), ("strconv.ErrSyntax", Rows.laid_strconv_ErrSyntax)] W := by rw [MakeChecks.laidMetH_plain _ _ _ (by kernel_rfl)] at hL0; exact hL0
  rw [show Rows.laid_internal_strconv_uint64pow10 = (Lib.tabData .u64 Lib.pow10Tab : DataW Unit) by kernel_rfl] at hL
  have hI : P.Inv W := P.inv_of_laid hL
  clear hA0
  refine (Id.row_does (args := [.agg (Id.mD a0)]) (vs := #[.agg cs0]) hI ⟨_, _, rfl, ⟨_, rfl, ra0⟩, rfl⟩ (Id.rights_does Id.x0_lib a0 sm0)).mono fun e W' ⟨he, bel0⟩ => ?_
  have bel : Below W.heap.size W W' := bel0
  subst he
  exact ⟨_, rfl, _, _, _, [], _, [], hW', trodAll_mk1 (shut_bool Tryz.underlying4 _), (trodAll_cons_mk (Below.trod laidOut (by kernel_rfl) (of_decide_eq_true (by kernel_rfl)) k0 bel lt0) trodAll_mk0), rfl, bel.frame _, fun h => by cases h⟩
/-- So many blocks has the settled world. -/
noncomputable def low : Nat := (World.holding Tryz.prog default ⟨#[], #[], []⟩).heap.size
/-- A world for the witness: the settled one, the listed variables holding what their initialisers lay. -/
noncomputable def laidWorld (os : Os) : World :=
  { World.holding Tryz.prog os ⟨#[.cells #[.string { data := #[118, 97, 108, 117, 101, 32, 111, 117, 116, 32, 111, 102, 32, 114, 97, 110, 103, 101] }] 202, .cells #[.string { data := #[105, 110, 118, 97, 108, 105, 100, 32, 115, 121, 110, 116, 97, 120] }] 202], #[], []⟩ with heap := ((((((World.holding Tryz.prog os ⟨#[.cells #[.string { data := #[118, 97, 108, 117, 101, 32, 111, 117, 116, 32, 111, 102, 32, 114, 97, 110, 103, 101] }] 202, .cells #[.string { data := #[105, 110, 118, 97, 108, 105, 100, 32, 115, 121, 110, 116, 97, 120] }] 202], #[], []⟩).heap.modify 4 fun
      | .cells _ t frozen => .cells #[.int .u8 0, .int .u8 1, .int .u8 28, .int .u8 2, .int .u8 29, .int .u8 14, .int .u8 24, .int .u8 3, .int .u8 30, .int .u8 22, .int .u8 20, .int .u8 15, .int .u8 25, .int .u8 17, .int .u8 4, .int .u8 8, .int .u8 31, .int .u8 27, .int .u8 13, .int .u8 23, .int .u8 21, .int .u8 19, .int .u8 16, .int .u8 7, .int .u8 26, .int .u8 12, .int .u8 18, .int .u8 6, .int .u8 11, .int .u8 5, .int .u8 10, .int .u8 9] t frozen
      | o => o).modify 5 fun
      | .cells _ t frozen => .cells #[.int .u8 0, .int .u8 1, .int .u8 56, .int .u8 2, .int .u8 57, .int .u8 49, .int .u8 28, .int .u8 3, .int .u8 61, .int .u8 58, .int .u8 42, .int .u8 50, .int .u8 38, .int .u8 29, .int .u8 17, .int .u8 4, .int .u8 62, .int .u8 47, .int .u8 59, .int .u8 36, .int .u8 45, .int .u8 43, .int .u8 51, .int .u8 22, .int .u8 53, .int .u8 39, .int .u8 33, .int .u8 30, .int .u8 24, .int .u8 18, .int .u8 12, .int .u8 5, .int .u8 63, .int .u8 55, .int .u8 48, .int .u8 27, .int .u8 60, .int .u8 41, .int .u8 37, .int .u8 16, .int .u8 46, .int .u8 35, .int .u8 44, .int .u8 21, .int .u8 52, .int .u8 32, .int .u8 23, .int .u8 11, .int .u8 54, .int .u8 26, .int .u8 40, .int .u8 15, .int .u8 34, .int .u8 20, .int .u8 31, .int .u8 10, .int .u8 25, .int .u8 14, .int .u8 19, .int .u8 9, .int .u8 13, .int .u8 8, .int .u8 7, .int .u8 6] t frozen
      | o => o).modify 3 fun
      | .cells _ t frozen => .cells #[.int .u64 1, .int .u64 10, .int .u64 100, .int .u64 1000, .int .u64 10000, .int .u64 100000, .int .u64 1000000, .int .u64 10000000, .int .u64 100000000, .int .u64 1000000000, .int .u64 10000000000, .int .u64 100000000000, .int .u64 1000000000000, .int .u64 10000000000000, .int .u64 100000000000000, .int .u64 1000000000000000, .int .u64 10000000000000000, .int .u64 100000000000000000, .int .u64 1000000000000000000, .int .u64 10000000000000000000] t frozen
      | o => o).modify 2 fun
      | .cells _ t frozen => .cells #[.iface 200 (.pointer (some ⟨low + 0, 0, none⟩))] t frozen
      | o => o).modify 1 fun
      | .cells _ t frozen => .cells #[.iface 200 (.pointer (some ⟨low + 1, 0, none⟩))] t frozen
      | o => o) }
theorem laid_met (os : Os) : laidMet Tryz.prog Rows.parseRightsUptoRow.laid ((laidWorld os).forCall (fun _ _ => 0) ⟨#[], #[.agg #[.slice none 0 0, .slice none 0 0, .slice none 0 0]], []⟩).memory :=
  laidMet_of_run' 8 (by kernel_rfl) (by kernel_rfl)
theorem reads (os : Os) {H : Type} (enc : TypeId × Value → H) : ∃ places, DataW.whole enc Tryz.prog ((laidWorld os).forCall (fun _ _ => 0) ⟨#[], #[.agg #[.slice none 0 0, .slice none 0 0, .slice none 0 0]], []⟩).memory Tryz.f10.params.toList Rows.parseRightsSpec.vars false (#[.agg #[.slice none 0 0, .slice none 0 0, .slice none 0 0]] : Array Value).toList 8 = some ([.agg [.nil, .nil, .nil]], [], places) :=
  ⟨[], by kernel_rfl⟩
set_option maxRecDepth 100000 in
theorem lifted (os : Os) (started : os.Started) (H : Type) (enc : TypeId × Value → H) (F : Stop.Interp) :
    ReturnsInHanded {} Tryz.checked os 10 .any ((Rows.OpenSpec.upto Rows.parseRightsSpec).preRow enc Tryz.prog Tryz.f10 Rows.parseRightsUptoRow.domain false Rows.parseRightsUptoRow.laid) (((Rows.OpenSpec.upto Rows.parseRightsSpec).at F).post enc Tryz.prog Tryz.f10 false true false false) := by
  obtain ⟨places, hx⟩ := reads os enc
  refine returnsInHanded_of_row (C := Tryz.checked) (s := Rows.OpenSpec.upto Rows.parseRightsSpec) own started (by kernel_rfl) Tryz.func10
    (witness_row_at (enc := enc) (C := Tryz.checked) false (laidWorld os) #[.agg #[.slice none 0 0, .slice none 0 0, .slice none 0 0]] rfl (by kernel_rfl) (by kernel_rfl) (by kernel_rfl)
      (OpenSpec.preRow_of_cond 8 hx (by kernel_rfl) (fun k hk => by cases hk; kernel_rfl) (by kernel_rfl) (laid_met os))) ?_
  intro W base args ds gs before hval hW _ hcond _ hL0 _ _
  exact contract H enc W args ds gs before base hval hW (hcond _ rfl) hL0
theorem saidUpto : Rows.ParseRightsUptoSaid :=
  OpenClaim.holds_of_cond 10 Tryz.f10 rfl rfl rfl rfl rfl rfl rfl ⟨rfl, rfl, rfl, rfl, rfl⟩ rfl rfl rfl rfl rfl (by kernel_rfl) Tryz.func10 (by kernel_rfl)
    (of_decide_eq_true (by kernel_rfl)) (by unfold Func.isWrapper; first | (rw [if_pos (by decide +kernel)]; kernel_rfl) | (rw [if_neg (by decide +kernel)]; exact ⟨rfl, rfl⟩))
    (fun os started H enc _ F => by rw [OpenClaim.pre_eq_preRow]; exact lifted os started H enc F)
theorem plain (f : FuncId) (fn : Func) (hf : Tryz.pinned.checked.prog.funcNamed "treadle/treadlelaw14.ParseRights" = some f) (hfn : Tryz.pinned.checked.prog.funcs[f]? = some fn) :
    true = Tryz.pinned.checked.prog.looks [] ∧ ∀ (j : Nat) t, fn.params[j]? = some t → Tryz.pinned.checked.prog.wantsStandIn t = false := by
  obtain rfl : f = 10 := Option.some.inj ((show Tryz.prog.funcNamed "treadle/treadlelaw14.ParseRights" = some 10 by kernel_rfl).symm.trans hf) |>.symm
  obtain rfl : fn = Tryz.f10 := (Option.some.inj (Tryz.func10.symm.trans hfn)).symm
  refine ⟨by kernel_rfl, fun j t ht => ?_⟩
  rw [Tryz.params10] at ht
  have hm := Array.mem_of_getElem? ht
  simp only [List.mem_toArray, List.mem_cons, List.not_mem_nil, or_false] at hm
  rcases hm with rfl
  · exact (show Tryz.prog.wantsStandIn 26 = false by kernel_rfl)
theorem cardUpto : Rows.ParseRightsUptoCardSaid :=
  Claim7.holds_tied_plain_at .later [] _ _ _ _ saidUpto (fun _ h => by cases h) (by kernel_rfl) (fun _ h => by cases h) parseRightsUpto_row_tie rfl ⟨rfl, rfl⟩ (by kernel_rfl) rfl plain (by kernel_rfl)
#print axioms cardUpto
end Go.Proofs.YtacfbgfphkfobaaGreatDoor.parseRights
namespace Go.Proofs.YtacfbgfphkfobaaGreatDoor
/-- The statement, under a short name, for the claim. -/
theorem parseRights_holds : Rows.ParseRightsUptoCardSaid := parseRights.cardUpto
end Go.Proofs.YtacfbgfphkfobaaGreatDoor
