/- Texts of this repo, bundled: PaG, PaRd, PaRe, PaEx, IdealX, PaRow, PaLine, PaPrim, PaStmt, PaBlock, PaFunc, PaMod. -/
import Derived.Test.YtaddhpeainliiaaGreatDoorBunPrintModulesd
/-! ## PaG -/
namespace Go.Proofs.YtaddhpeainliiaaGreatDoor.Id
open Go
set_option linter.unusedVariables false
set_option linter.unusedSimpArgs false
structure Tk where
  k : Nat
  a : Nat
  s : ByteArray
inductive Rs (α : Type) where
  | ok (x : α) (l : List Tk)
  | more
  | err (e : Nat) (l : List Tk)
  | out
def Rs.bind {α β : Type} : Rs α → (α → List Tk → Rs β) → Rs β
  | .ok x l, f => f x l
  | .more, _ => .more
  | .err e l, _ => .err e l
  | .out, _ => .out
inductive Gr (α : Type) where
  | ret (x : α)
  | look (f : Tk → Gr α)
  | next (g : Gr α)
  | err (e : Nat)
  | out
def Gr.bind {α β : Type} : Gr α → (α → Gr β) → Gr β
  | .ret x, f => f x
  | .look g, f => .look fun t => (g t).bind f
  | .next g, f => .next (g.bind f)
  | .err e, _ => .err e
  | .out, _ => .out
def runG {α : Type} : Gr α → List Tk → Rs α
  | .ret x, l => .ok x l
  | .look _, [] => .more
  | .look f, t :: r => runG (f t) (t :: r)
  | .next g, _ :: u :: r => runG g (u :: r)
  | .next _, _ => .more
  | .err e, l => .err e l
  | .out, _ => .out
theorem runG_bind {α β : Type} (p : Gr α) (f : α → Gr β) : ∀ l, runG (p.bind f) l = (runG p l).bind fun x r => runG (f x) r := by
  induction p with
  | ret x => intro l; rfl
  | look g ih =>
    intro l
    cases l with
    | nil => rfl
    | cons t r => exact ih t (t :: r)
  | next g ih =>
    intro l
    match l with
    | [] => rfl
    | [t] => rfl
    | t :: u :: r => exact ih (u :: r)
  | err e => intro l; rfl
  | out => intro l; rfl
def Rs.ext {α : Type} (x : List Tk) : Rs α → Rs α
  | .ok a r => .ok a (r ++ x)
  | .err e r => .err e (r ++ x)
  | r => r
theorem runG_app {α : Type} (p : Gr α) : ∀ (l x : List Tk), runG p l ≠ .more → runG p (l ++ x) = (runG p l).ext x := by
  induction p with
  | ret a => intro l x _; rfl
  | look g ih =>
    intro l x h
    cases l with
    | nil => exact absurd rfl h
    | cons t r => exact ih t (t :: r) x h
  | next g ih =>
    intro l x h
    match l with
    | [] => exact absurd rfl h
    | [t] => exact absurd rfl h
    | t :: u :: r => exact ih (u :: r) x h
  | err e => intro l x h; rfl
  | out => intro l x h; rfl
def isT (t : Tk) (x : ByteArray) : Bool := (decide (t.k = 5) || decide (t.k = 4)) && decide (t.s = x)
def isAny (t : Tk) (xs : List ByteArray) : Bool := (decide (t.k = 5) || decide (t.k = 4)) && xs.any fun x => decide (t.s = x)
def gMust (x : ByteArray) : Gr Nat := .look fun t => match isT t x with | true => .next (.ret t.a) | false => .err 140
def gOf (k : Nat) : Gr (ByteArray × Nat) := .look fun t => match decide (t.k = k) with | true => .next (.ret (t.s, t.a)) | false => .err 140
def gOpen (x : ByteArray) (d : Nat) : Gr Unit := .look fun t => match isT t x with
  | true => match decide (64 ≤ d) with
    | true => .err 141
    | false => .next (.ret ())
  | false => .err 140
/-- is this next? -/
def gIs (x : ByteArray) : Gr Bool := .look fun t => .ret (isT t x)
/-- a comma, ahead of all but the first -/
def gSep (n : Nat) : Gr Unit := match decide (0 < n) with
  | true => (gMust (mkB [44])).bind fun _ => .ret ()
  | false => .ret ()
theorem gr_assoc {α β γ : Type} (p : Gr α) (f : α → Gr β) (g : β → Gr γ) : (p.bind f).bind g = p.bind fun x => (f x).bind g := by
  induction p with
  | ret x => rfl
  | look k ih => simp only [Gr.bind]; congr 1; funext t; exact ih t
  | next k ih => simp only [Gr.bind]; rw [ih]
  | err e => rfl
  | out => rfl
theorem gSep_pos {β : Type} {n : Nat} (h : 0 < n) (g : Unit → Gr β) : (gSep n).bind g = (gMust (mkB [44])).bind fun _ => g () := by
  unfold gSep
  rw [decide_eq_true h]
  exact gr_assoc _ _ _
theorem gSep_zero {β : Type} {n : Nat} (h : ¬ 0 < n) (g : Unit → Gr β) : (gSep n).bind g = g () := by
  unfold gSep
  rw [decide_eq_false h]; rfl
theorem runG_is {β : Type} (x : ByteArray) (f : Bool → Gr β) (t : Tk) (r : List Tk) : runG ((gIs x).bind f) (t :: r) = runG (f (isT t x)) (t :: r) := rfl
theorem runG_look {β : Type} (f : Tk → Gr β) (t : Tk) (r : List Tk) : runG (.look f) (t :: r) = runG (f t) (t :: r) := rfl
structure TVal where
  t : Int
  i : Int
  b : Bool
  s : ByteArray
inductive TExpr where
  | mk (k a : Int) (of nm : ByteArray) (v : TVal) (op : Int) (kids : List TExpr)
structure TParam where
  nm : ByteArray
  t : Int
inductive TStmt where
  | mk (k a : Int) (nm : ByteArray) (e : TExpr) (body els : List TStmt) (he : Bool)
structure TFunc where
  nm : ByteArray
  ex : Bool
  a : Int
  ps : List TParam
  res : Int
  body : List TStmt
structure TIncl where
  p : ByteArray
  nm : ByteArray
  a : Int
structure TCons where
  nm : ByteArray
  ex : Bool
  a : Int
  e : TExpr
structure TMod where
  is : List TIncl
  cs : List TCons
  fs : List TFunc
def b0 : ByteArray := ⟨#[]⟩
def val0 : TVal := ⟨0, 0, false, b0⟩
def expr0 : TExpr := .mk 0 0 b0 b0 val0 0 []
def signs : Nat → List ByteArray
  | 0 => [mkB [124, 124]]
  | 1 => [mkB [38, 38]]
  | 2 => [mkB [61, 61], mkB [33, 61], mkB [60], mkB [60, 61], mkB [62], mkB [62, 61]]
  | 3 => [mkB [43], mkB [45], mkB [43, 43]]
  | _ => [mkB [42], mkB [47], mkB [37]]
def opSigns : List ByteArray := [mkB [124, 124], mkB [38, 38], mkB [61, 61], mkB [33, 61], mkB [60], mkB [60, 61], mkB [62], mkB [62, 61], mkB [43], mkB [45], mkB [43, 43], mkB [42], mkB [47], mkB [37]]
def opGo : List ByteArray → ByteArray → Nat → Nat
  | [], _, _ => 0
  | x :: r, s, i => match decide (s = x) with | true => i | false => opGo r s (i + 1)
def opOf (s : ByteArray) : Int := opGo opSigns s 1
def unSigns : List ByteArray := [mkB [45], mkB [33], mkB [35]]
def unOp (s : ByteArray) : Int := if s = mkB [45] then 15 else if s = mkB [33] then 16 else 17
/-- the value of a number's text -/
def numZ (s : ByteArray) : Int := (numR (L s)).1
/-- the value of a text's text -/
def txtZ (s : ByteArray) : ByteArray := match L s with
  | [] => b0
  | c :: r => if c.toNat = 34 then (match quo r with | none => b0 | some (t, n) => if n = r.length + 1 then mkB t else b0) else b0
def bin (a : Nat) (s : ByteArray) (x y : TExpr) : TExpr := .mk 5 a b0 b0 val0 (opOf s) [x, y]
def una (a : Nat) (s : ByteArray) (x : TExpr) : TExpr := .mk 4 a b0 b0 val0 (unOp s) [x]
mutual
def pLine : Nat → Nat → Nat → Gr TExpr
  | 0, _, _ => .out
  | n + 1, k, d => match decide (k = 5) with
    | true => pUnary n d
    | false => (pLine n (k + 1) d).bind fun e => pTail n k d e
termination_by structural n => n
def pTail : Nat → Nat → Nat → TExpr → Gr TExpr
  | 0, _, _, _ => .out
  | n + 1, k, d, e => .look fun t => match isAny t (signs k) with
    | true => .next ((pLine n (k + 1) d).bind fun e2 => match decide (k = 2) with
      | true => .ret (bin t.a t.s e e2)
      | false => pTail n k d (bin t.a t.s e e2))
    | false => .ret e
termination_by structural n => n
def pUnary : Nat → Nat → Gr TExpr
  | 0, _ => .out
  | n + 1, d => .look fun t => match isAny t unSigns with
    | true => match decide (64 ≤ d) with
      | true => .err 141
      | false => .next ((pUnary n (d + 1)).bind fun e => .ret (una t.a t.s e))
    | false => pPrim n d
termination_by structural n => n
def pPrim : Nat → Nat → Gr TExpr
  | 0, _ => .out
  | n + 1, d => .look fun t => match decide (t.k = 2) with
    | true => .next (.ret (.mk 1 t.a b0 b0 ⟨1, numZ t.s, false, b0⟩ 0 []))
    | false => match decide (t.k = 3) with
      | true => .next (.ret (.mk 1 t.a b0 b0 ⟨3, 0, false, txtZ t.s⟩ 0 []))
      | false => match isAny t [mkB [116, 114, 117, 101], mkB [102, 97, 108, 115, 101]] with
        | true => .next (.ret (.mk 1 t.a b0 b0 ⟨2, 0, decide (t.s = mkB [116, 114, 117, 101]), b0⟩ 0 []))
        | false => match isT t (mkB [40]) with
          | true => (gOpen (mkB [40]) d).bind fun _ => (pLine n 0 (d + 1)).bind fun e => (gMust (mkB [41])).bind fun _ => .ret e
          | false => (gOf 1).bind fun w => (gIs (mkB [46])).bind fun
            | true => .next ((gOf 1).bind fun w2 => pName n d t.a w.1 w2.1)
            | false => pName n d t.a b0 w.1
termination_by structural n => n
def pName : Nat → Nat → Nat → ByteArray → ByteArray → Gr TExpr
  | 0, _, _, _, _ => .out
  | n + 1, d, a, of, nm => (gIs (mkB [40])).bind fun
    | true => (pArgs n d).bind fun l => .ret (.mk 3 a of nm val0 0 l)
    | false => .ret (.mk 2 a of nm val0 0 [])
termination_by structural n => n
def pArgs : Nat → Nat → Gr (List TExpr)
  | 0, _ => .out
  | n + 1, d => (gOpen (mkB [40]) d).bind fun _ => pArgl n (d + 1) []
termination_by structural n => n
def pArgl : Nat → Nat → List TExpr → Gr (List TExpr)
  | 0, _, _ => .out
  | n + 1, d, l => (gIs (mkB [41])).bind fun
    | true => .next (.ret l)
    | false => (gSep l.length).bind fun _ => (pLine n 0 d).bind fun e => pArgl n d (l ++ [e])
termination_by structural n => n
end
def kInt : ByteArray := mkB [105, 110, 116]
def kBool : ByteArray := mkB [98, 111, 111, 108]
def kText : ByteArray := mkB [116, 101, 120, 116]
def pType : Gr Int := .look fun t => match isAny t [kInt, kBool, kText] with
  | true => .next (.ret (if t.s = kInt then 1 else if t.s = kBool then 2 else 3))
  | false => .err 140
def kVar : ByteArray := mkB [118, 97, 114]
def kIf : ByteArray := mkB [105, 102]
def kElse : ByteArray := mkB [101, 108, 115, 101]
def kWhile : ByteArray := mkB [119, 104, 105, 108, 101]
def kReturn : ByteArray := mkB [114, 101, 116, 117, 114, 110]
def kPrint : ByteArray := mkB [112, 114, 105, 110, 116]
def kInclude : ByteArray := mkB [105, 110, 99, 108, 117, 100, 101]
def kAs : ByteArray := mkB [97, 115]
def kExport : ByteArray := mkB [101, 120, 112, 111, 114, 116]
def kConst : ByteArray := mkB [99, 111, 110, 115, 116]
def kFunc : ByteArray := mkB [102, 117, 110, 99]
/-- kind, name, expression of a statement that begins with a word -/
def pNamed (n d : Nat) : Gr (Int × ByteArray × TExpr) := (gOf 1).bind fun w => (gIs (mkB [61])).bind fun
  | true => .next ((pLine n 0 d).bind fun e => .ret (2, w.1, e))
  | false => (gIs (mkB [46])).bind fun
    | true => .next ((gOf 1).bind fun w2 => (pArgs n d).bind fun l => .ret (7, b0, .mk 3 w.2 w.1 w2.1 val0 0 l))
    | false => (pArgs n d).bind fun l => .ret (7, b0, .mk 3 w.2 b0 w.1 val0 0 l)
/-- behind a statement's end sign -/
def gSemi (s : TStmt) : Gr TStmt := (gMust (mkB [59])).bind fun _ => .ret s
mutual
def pBlock : Nat → Nat → Gr (List TStmt)
  | 0, _ => .out
  | n + 1, d => (gOpen (mkB [123]) d).bind fun _ => pStmts n (d + 1) []
termination_by structural n => n
def pStmts : Nat → Nat → List TStmt → Gr (List TStmt)
  | 0, _, _ => .out
  | n + 1, d, l => (gIs (mkB [125])).bind fun
    | true => .next (.ret l)
    | false => (pStmt n d).bind fun s => pStmts n d (l ++ [s])
termination_by structural n => n
def pStmt : Nat → Nat → Gr TStmt
  | 0, _ => .out
  | n + 1, d => .look fun t => match isT t kVar with
    | true => .next ((gOf 1).bind fun w => (gMust (mkB [61])).bind fun _ => (pLine n 0 d).bind fun e => gSemi (.mk 1 t.a w.1 e [] [] false))
    | false => match isT t kIf with
      | true => pBranch n d
      | false => match isT t kWhile with
        | true => .next ((pLine n 0 d).bind fun e => (pBlock n d).bind fun b => .ret (.mk 4 t.a b0 e b [] false))
        | false => match isT t kReturn with
          | true => .next ((gIs (mkB [59])).bind fun
            | true => gSemi (.mk 5 t.a b0 expr0 [] [] false)
            | false => (pLine n 0 d).bind fun e => gSemi (.mk 5 t.a b0 e [] [] false))
          | false => match isT t kPrint with
            | true => .next ((pLine n 0 d).bind fun e => gSemi (.mk 6 t.a b0 e [] [] false))
            | false => (pNamed n d).bind fun x => gSemi (.mk x.1 t.a x.2.1 x.2.2 [] [] false)
termination_by structural n => n
def pBranch : Nat → Nat → Gr TStmt
  | 0, _ => .out
  | n + 1, d => (gMust kIf).bind fun a => (pLine n 0 d).bind fun e => (pBlock n d).bind fun b => (gIs kElse).bind fun
    | false => .ret (.mk 3 a b0 e b [] false)
    | true => .next ((gIs kIf).bind fun
      | true => (pBranch n d).bind fun s => .ret (.mk 3 a b0 e b [s] true)
      | false => (pBlock n d).bind fun l => .ret (.mk 3 a b0 e b l true))
termination_by structural n => n
end
def pParam : Gr TParam := (gOf 1).bind fun w => (gMust (mkB [58])).bind fun _ => pType.bind fun t => .ret ⟨w.1, t⟩
def pParams : Nat → List TParam → Gr (List TParam)
  | 0, _ => .out
  | n + 1, l => (gIs (mkB [41])).bind fun
    | true => .next (.ret l)
    | false => (gSep l.length).bind fun _ => pParam.bind fun x => pParams n (l ++ [x])
def pFunc (n : Nat) (ex : Bool) : Gr TFunc := (gMust kFunc).bind fun _ => (gOf 1).bind fun w => (gOpen (mkB [40]) 0).bind fun _ => (pParams n []).bind fun ps => (gIs (mkB [58])).bind fun
  | true => .next (pType.bind fun t => (pBlock n 0).bind fun b => .ret ⟨w.1, ex, w.2, ps, t, b⟩)
  | false => (pBlock n 0).bind fun b => .ret ⟨w.1, ex, w.2, ps, 0, b⟩
def pConst (n : Nat) (ex : Bool) : Gr TCons := (gMust kConst).bind fun _ => (gOf 1).bind fun w => (gMust (mkB [61])).bind fun _ => (pLine n 0 0).bind fun e => (gMust (mkB [59])).bind fun _ => .ret ⟨w.1, ex, w.2, e⟩
def pIncl : Gr TIncl := (gMust kInclude).bind fun a => (gOf 3).bind fun q => (gMust kAs).bind fun _ => (gOf 1).bind fun w => (gMust (mkB [59])).bind fun _ => .ret ⟨txtZ q.1, w.1, a⟩
def pIncls : Nat → List TIncl → Gr (List TIncl)
  | 0, _ => .out
  | n + 1, l => (gIs kInclude).bind fun
    | true => pIncl.bind fun x => pIncls n (l ++ [x])
    | false => .ret l
def pDecl (k : TMod → Gr TMod) (n : Nat) (ex : Bool) (m : TMod) : Gr TMod := .look fun t => match isT t kConst with
  | true => (pConst n ex).bind fun c => k { m with cs := m.cs ++ [c] }
  | false => match isT t kFunc with
    | true => (pFunc n ex).bind fun f => k { m with fs := m.fs ++ [f] }
    | false => .err 140
def pDecls : Nat → TMod → Gr TMod
  | 0, _ => .out
  | n + 1, m => .look fun t => match decide (t.k = 0) with
    | true => .ret m
    | false => match isT t kExport with
      | true => .next (pDecl (pDecls n) n true m)
      | false => pDecl (pDecls n) n false m
def pModule (n : Nat) : Gr TMod := (pIncls n []).bind fun l => pDecls n ⟨l, [], []⟩
def pEnd {α : Type} (p : Gr α) : Gr α := p.bind fun x => .look fun t => match decide (t.k = 0) with
  | true => .ret x
  | false => .err 140
end Go.Proofs.YtaddhpeainliiaaGreatDoor.Id
/-! ## PaRd -/
namespace Go.Proofs.YtaddhpeainliiaaGreatDoor.Id
open Go
set_option linter.unusedVariables false
set_option linter.unusedSimpArgs false
variable {X : Given}
/-- a reader's cells -/
abbrev rd (s : ByteArray) (F T k a b : Int) (x : ByteArray) (d : Int) : List V := [vS s, vI F, vI T, vI k, vI a, vI b, vS x, vI d]
abbrev stopV (e a : Int) : V := .iface 169 (.agg [.int .i64 e, .int .i64 a])
theorem r_fail (e : Int) (s : ByteArray) (F T k a b : Int) (x : ByteArray) (d : Int) : Does X 89 [.box base 0, vI e] [rd s F T k a b x d] (.pan (stopV e a) [rd s F T k a b x d]) := by
  refine DoesQ.eq (DoesQ.of Tryz.func89 (by kernel_rfl) ?_)
  exact WP.leaf rfl
theorem is_loop (l : List ByteArray) (hl : l.length ≤ 1048576) (s : ByteArray) (F T k a b : Int) (x : ByteArray) (d : Int) (K : Ex → St → Id.T Out) (Q : Out → Prop)
    (hE : (l.any fun y => decide (x = y)) = false → WP X (K (.exit 0) ⟨[], [(base, rd s F T k a b x d)]⟩) Q) (hR : (l.any fun y => decide (x = y)) = true → WP X (K .ret ⟨[(4, .lit true)], [(base, rd s F T k a b x d)]⟩) Q) :
    ∀ (r p : List ByteArray), l = p ++ r → (p.any fun y => decide (x = y)) = false → ∀ σ : St, getT σ.t 0 = .box base 0 → getT σ.t 21 = .d (.sl 1 (rowS l)) → getT σ.t 22 = vI (rowS l).length → getT σ.t 23 = vI p.length → getB σ.b base = some (rd s F T k a b x d) → WP X (.loop (lp Tryz.f90 0) σ K) Q
  | r, p, h, hp, σ, g0, g21, g22, g23, gb => by
    refine WP.round ⟨[(0, .box base 0), (21, .d (.sl 1 (rowS l))), (22, vI (rowS l).length), (23, vI p.length)], [(base, rd s F T k a b x d)]⟩ ⟨⟨.inl g0.symm, .inl g21.symm, .inl g22.symm, .inl g23.symm, trivial⟩, ⟨WkB.box gb, trivial⟩⟩ ?_
    cases r with
    | nil =>
      refine WP.iteF (by subst h; simp [rowS]) ?_
      refine WP.leaf ⟨⟨[], [(base, rd s F T k a b x d)]⟩, ⟨trivial, ⟨WkB.box rfl, trivial⟩⟩, hE (by subst h; simpa using hp)⟩
    | cons y r =>
      have hd : l.drop p.length = y :: r := by subst h; simp
      have hlen : l.length = p.length + r.length + 1 := by subst h; simp; omega
      refine WP.iteT (by simp only [rowS, List.length_map]; rw [hlen]; simp; omega) ?_
      refine WP.idx _ (by omega) (rowS_get hd) ?_
      refine WP.dec (fun hx => ?_) (fun hx => ?_)
      · refine WP.leaf ⟨⟨[(4, .lit true)], [(base, rd s F T k a b x d)]⟩, ⟨⟨.inl rfl, trivial⟩, ⟨WkB.box rfl, trivial⟩⟩, hR (by subst h; simp [hx])⟩
      · refine WP.leaf ?_
        refine is_loop l hl s F T k a b x d K Q hE hR r (p ++ [y]) (by subst h; simp) (by rw [List.any_append, hp]; simpa using hx) _ rfl rfl rfl ?_ rfl
        show vI (IntKind.i64.wrap ((p.length : Int) + 1)) = _
        rw [wrapI (by omega) (by omega)]; simp
theorem r_is (l : List ByteArray) (hl : l.length ≤ 1048576) (s : ByteArray) (F T k a b : Int) (x : ByteArray) (d : Int) : Does X 90 [.box base 0, .d (.sl 1 (rowS l))] [rd s F T k a b x d] (.ret (vB ((decide (k = 5) || decide (k = 4)) && l.any fun y => decide (x = y))) [rd s F T k a b x d]) := by
  refine DoesQ.eq (DoesQ.of Tryz.func90 (by kernel_rfl) ?_)
  by_cases h5 : k = 5
  · refine WP.iteF (by simp [h5]) ?_
    refine is_loop l hl s F T k a b x d _ _ ?_ ?_ l [] rfl rfl _ rfl rfl rfl rfl rfl
    · intro h; exact WP.leaf (by simp [h, h5])
    · intro h; exact WP.leaf (by simp [h, h5])
  · refine WP.iteT (by simp [h5]) ?_
    by_cases h4 : k = 4
    · refine WP.iteF (by simp [h4]) ?_
      refine is_loop l hl s F T k a b x d _ _ ?_ ?_ l [] rfl rfl _ rfl rfl rfl rfl rfl
      · intro h; exact WP.leaf (by simp [h, h4])
      · intro h; exact WP.leaf (by simp [h, h4])
    · refine WP.iteT (by simp [h4]) ?_
      exact WP.leaf (by simp [h4, h5])
/-! ### the tokens of a source from a byte on, with so much fuel; then the fault, where they don't reach the end -/
def tkAt (s : ByteArray) (i : Nat) : Tk := ⟨(nx (L s) i).1, (nx (L s) i).2.1, s.extract (nx (L s) i).2.1 (nx (L s) i).2.2.1⟩
inductive Chain (s : ByteArray) : Nat → Nat → List Tk → Nat × Nat → Prop where
  | bad {i b : Nat} : (nx (L s) i).2.2.2 ≠ 0 → Chain s i b [] ((nx (L s) i).2.2.2, (nx (L s) i).2.1)
  | fin {i b : Nat} {f : Nat × Nat} : (nx (L s) i).2.2.2 = 0 → (nx (L s) i).1 = 0 → Chain s i b [tkAt s i] f
  | out {i : Nat} : (nx (L s) i).2.2.2 = 0 → (nx (L s) i).1 ≠ 0 → Chain s i 0 [] (142, (nx (L s) i).2.1)
  | tok {i b : Nat} {l : List Tk} {f : Nat × Nat} : (nx (L s) i).2.2.2 = 0 → (nx (L s) i).1 ≠ 0 → Chain s (nx (L s) i).2.2.1 b l f → Chain s i (b + 1) (tkAt s i :: l) f
theorem chain_ex (s : ByteArray) : ∀ (n i b : Nat), i ≤ s.size → s.size - i < n → ∃ l f, Chain s i b l f
  | 0, i, b, hi, hn => by omega
  | n + 1, i, b, hi, hn => by
    by_cases he : (nx (L s) i).2.2.2 = 0
    · by_cases hk : (nx (L s) i).1 = 0
      · exact ⟨_, (0, 0), .fin he hk⟩
      · cases b with
        | zero => exact ⟨_, _, .out he hk⟩
        | succ b =>
          have := nx_adv (L s) i (by rw [L_length]; exact hi) he hk
          rw [L_length] at this
          obtain ⟨l, f, h⟩ := chain_ex s n (nx (L s) i).2.2.1 b (by omega) (by omega)
          exact ⟨_, f, .tok he hk h⟩
    · exact ⟨_, _, .bad he⟩
theorem tkAt_to (s : ByteArray) (i : Nat) (hi : i ≤ s.size) (he : (nx (L s) i).2.2.2 = 0) : (tkAt s i).a + (tkAt s i).s.size = (nx (L s) i).2.2.1 ∧ (nx (L s) i).2.2.1 ≤ s.size := by
  by_cases hk : (nx (L s) i).1 = 0
  · have : (nx (L s) i).2.1 = s.size ∧ (nx (L s) i).2.2.1 = s.size := by
      unfold nx at *
      split at hk
      · rename_i h; rw [if_pos h]; exact ⟨L_length s, L_length s⟩
      · rename_i h
        rw [if_neg h] at he
        split at hk
        · rename_i h2
          have := tok_ok _ h2
          simp only at hk; omega
        · rename_i h2; rw [if_neg h2] at he; exact absurd he h2
    unfold tkAt
    simp only [ByteArray.size_extract]
    omega
  · have := nx_adv (L s) i (by rw [L_length]; exact hi) he hk
    rw [L_length] at this
    unfold tkAt
    simp only [ByteArray.size_extract]
    omega
theorem tkAt_good (s : ByteArray) (i : Nat) (hi : i ≤ s.size) (he : (nx (L s) i).2.2.2 = 0) (hk : (nx (L s) i).1 ≠ 0) : tok (L (tkAt s i).s) = ((tkAt s i).k, (tkAt s i).s.size, 0) := by
  have hto := tkAt_to s i hi he
  have h1 := nx_fr (L s) i
  obtain ⟨h2, h3, h4⟩ := nx_tok (L s) i he hk
  have hsz : (tkAt s i).s.size = (nx (L s) i).2.2.1 - (nx (L s) i).2.1 := by
    have : (tkAt s i).a = (nx (L s) i).2.1 := rfl
    omega
  have e : L (tkAt s i).s = ((L s).drop (nx (L s) i).2.1).take ((nx (L s) i).2.2.1 - (nx (L s) i).2.1) := by
    show L (s.extract _ _) = _
    rw [L_extract]
  rw [e, hsz]
  have := tok_self ((L s).drop (nx (L s) i).2.1) (by rw [h4])
  rw [h4] at this
  exact this
structure Env where
  s : ByteArray
  F : Nat
  N : Nat
  f : Nat × Nat
  hs : s.size ≤ 65536
  hF : F ≤ 9223372036854775807
abbrev rdT (E : Env) (T : Nat) (t : Tk) (d : Nat) : List V := rd E.s E.F T t.k t.a ((t.a + t.s.size : Nat) : Int) t.s d
/-- the reader stands at a token -/
structure At (E : Env) (T : Nat) (t : Tk) (r : List Tk) : Prop where
  n : T + (r.length + 1) = E.N
  z : t.k = 0 → r = []
  c : t.k ≠ 0 → T < E.F ∧ Chain E.s (t.a + t.s.size) (E.F - T - 1) r E.f
  b : t.a + t.s.size ≤ E.s.size
  g : t.k ≠ 0 → tok (L t.s) = (t.k, t.s.size, 0)
def Post {α : Type} (E : Env) (d : Nat) (ro : α → List V → Out) (po : V → List V → Out → Prop) (res : Rs α) (o : Out) : Prop :=
  match res with
  | .ok x l => ∃ T t r, l = t :: r ∧ At E T t r ∧ o = ro x (rdT E T t d)
  | .more => ∃ (k a b : Int) (y : ByteArray) (d2 : Int), po (stopV E.f.1 E.f.2) (rd E.s E.F E.N k a b y d2) o
  | .err e l => ∃ t r T, ∃ (k a b : Int) (y : ByteArray) (d2 : Int), l = t :: r ∧ T + l.length = E.N ∧ po (stopV (e : Nat) t.a) (rd E.s E.F (T : Nat) k a b y d2) o
  | .out => False
abbrev po1 (v : V) (cells : List V) (o : Out) : Prop := o = .pan v [cells]
set_option maxHeartbeats 2000000 in
/-- look: the tokens from a byte on -/
theorem r_look (hX : LibX X) (E : Env) (T i : Nat) (l : List Tk) (hi : i ≤ E.s.size) (hT : T ≤ E.F) (hN : T + l.length = E.N) (hc : Chain E.s i (E.F - T) l E.f) (k a b : Int) (y : ByteArray) (d : Nat) :
    DoesQ X 88 [.box base 0, vI i] [rd E.s E.F T k a b y d] (Post E d (fun _ c => .ret (.tuple []) [c]) po1 (match l with | [] => Rs.more | l => .ok () l)) := by
  have hs := E.hs
  have hF := E.hF
  refine DoesQ.of Tryz.func88 (by kernel_rfl) ?_
  refine WP.use1 (lnext hX E.s E.hs i hi) ?_
  have hfr := nx_from (L E.s) i (by rw [L_length]; exact hi)
  rw [L_length] at hfr
  generalize hb0 : E.F - T = b0 at hc
  generalize hf0 : E.f = f0 at hc
  cases hc with
  | bad he =>
    refine WP.iteT (by simpa using he) ?_
    refine WP.use1 (r_fail _ _ _ _ _ _ _ _ _) ?_
    refine WP.leaf ⟨(nx (L E.s) i).1, (nx (L E.s) i).2.1, (nx (L E.s) i).2.2.1, y, d, ?_⟩
    simp only [List.length_nil, Nat.add_zero] at hN
    rw [hf0, ← hN]
  | fin he hk =>
    have hto := tkAt_to E.s i hi he
    have hta : (tkAt E.s i).a = (nx (L E.s) i).2.1 := rfl
    have hn : T + 1 = E.N := by simpa using hN
    refine WP.iteF (by simp [he]) ?_
    refine WP.asrt (by kernel_rfl) ?_
    iterate 10 refine WP.iteF (by simp [hk]) ?_
    refine WP.asrt (by kernel_rfl) ?_
    refine WP.asrt (by kernel_rfl) ?_
    refine WP.asrt ⟨by simp, by simp; omega, by simp; omega⟩ ?_
    refine WP.asrt (by kernel_rfl) ?_
    refine WP.leaf ⟨T, tkAt E.s i, [], rfl, ⟨hn, fun _ => rfl, fun h => absurd hk h, by omega, fun h => absurd hk h⟩, ?_⟩
    show _ = Out.ret _ [rd _ _ _ _ _ (((tkAt E.s i).a + (tkAt E.s i).s.size : Nat) : Int) _ _]
    rw [hto.1]; rfl
  | out he hk =>
    refine WP.iteF (by simp [he]) ?_
    refine WP.asrt (by kernel_rfl) ?_
    iterate 9 refine WP.iteT (by simp [hk]) ?_
    refine WP.iteT (by simp [hk]) ?_
    refine WP.asrt (by kernel_rfl) ?_
    refine WP.iteT (by simp; omega) ?_
    refine WP.use1 (r_fail _ _ _ _ _ _ _ _ _) ?_
    refine WP.leaf ⟨(nx (L E.s) i).1, (nx (L E.s) i).2.1, (nx (L E.s) i).2.2.1, y, d, ?_⟩
    simp only [List.length_nil, Nat.add_zero] at hN
    rw [hf0, ← hN]; rfl
  | @tok i b1 l1 f1 he hk hc =>
    have hto := tkAt_to E.s i hi he
    have hta : (tkAt E.s i).a = (nx (L E.s) i).2.1 := rfl
    have hn : T + (l1.length + 1) = E.N := by simpa using hN
    have hadv := nx_adv (L E.s) i (by rw [L_length]; exact hi) he hk
    refine WP.iteF (by simp [he]) ?_
    refine WP.asrt (by kernel_rfl) ?_
    iterate 9 refine WP.iteT (by simp [hk]) ?_
    refine WP.iteT (by simp [hk]) ?_
    refine WP.asrt (by kernel_rfl) ?_
    refine WP.iteF (by simp; omega) ?_
    refine WP.asrt (by kernel_rfl) ?_
    refine WP.asrt ⟨by simp, by simp; omega, by simp; omega⟩ ?_
    refine WP.asrt (by kernel_rfl) ?_
    refine WP.leaf ⟨T, tkAt E.s i, l1, rfl, ⟨hn, fun h => absurd h hk, fun _ => ⟨by omega, ?_⟩, by omega, fun _ => tkAt_good E.s i hi he hk⟩, ?_⟩
    · rw [hto.1, show E.F - T - 1 = b1 by omega, hf0]; exact hc
    show _ = Out.ret _ [rd _ _ _ _ _ (((tkAt E.s i).a + (tkAt E.s i).s.size : Nat) : Int) _ _]
    rw [hto.1]; rfl
/-- next: the next token is taken, and there is another one -/
theorem r_next (hX : LibX X) (E : Env) (T : Nat) (t : Tk) (r : List Tk) (hA : At E T t r) (hk : t.k ≠ 0) (d : Nat) :
    DoesQ X 94 [.box base 0] [rdT E T t d] (Post E d (fun x c => .ret (.tuple [vS x.1, vI (x.2 : Nat)]) [c]) po1 (runG (.next (.ret (t.s, t.a))) (t :: r))) := by
  have hF := E.hF
  have hs := E.hs
  obtain ⟨h1, h2⟩ := hA.c hk
  have hn := hA.n
  refine DoesQ.of Tryz.func94 (by kernel_rfl) ?_
  refine WP.asrt (by kernel_rfl) ?_
  refine WP.asrt (by kernel_rfl) ?_
  refine WP.use (R := Post E d (fun _ c => .ret (.tuple []) [c]) po1 (match r with | [] => Rs.more | l => .ok () l)) ?_ ?_
  · have e : IntKind.wrap .i64 ((T : Int) + 1) = ((T + 1 : Nat) : Int) := by rw [wrapI (by omega) (by omega)]; rfl
    have := r_look hX E (T + 1) (t.a + t.s.size) r hA.b (by omega) (by omega) (by rw [show E.F - (T + 1) = E.F - T - 1 by omega]; exact h2) t.k t.a ((t.a + t.s.size : Nat) : Int) t.s d
    rw [← e] at this
    exact this
  · intro o ho
    cases r with
    | nil =>
      obtain ⟨k, a, b, y, d2, rfl⟩ := ho
      exact WP.leaf ⟨k, a, b, y, d2, rfl⟩
    | cons u r =>
      obtain ⟨T', t', r', hl, hA', rfl⟩ := ho
      exact WP.leaf ⟨T', t', r', hl, hA', rfl⟩
end Go.Proofs.YtaddhpeainliiaaGreatDoor.Id
/-! ## PaRe -/
namespace Go.Proofs.YtaddhpeainliiaaGreatDoor.Id
open Go
set_option linter.unusedVariables false
set_option linter.unusedSimpArgs false
variable {X : Given}
/-- a function of the reader does what a grammar says -/
def Rdr {α : Type} (X : Given) (g : FuncId) (args : List V) (B : List V → List (List V)) (d d' : Nat) (p : Gr α) (ro : α → List V → Out) (po : V → List V → Out → Prop) : Prop :=
  ∀ (E : Env) (T : Nat) (t : Tk) (r : List Tk), At E T t r → runG p (t :: r) ≠ .out → DoesQ X g args (B (rdT E T t d)) (Post E d' ro po (runG p (t :: r)))
/-- the reader's box alone -/
abbrev B1 (c : List V) : List (List V) := [c]
theorem Post.pan {α : Type} {E : Env} {d : Nat} {ro : α → List V → Out} {po po' : V → List V → Out → Prop} {res : Rs α} {o : Out} {β : Type} {d' : Nat} {ro' : β → List V → Out} {h : α → List Tk → Rs β} (hp : Post E d ro po res o) (hne : res.bind h ≠ .out) :
    (∃ x T t r, res = .ok x (t :: r) ∧ At E T t r ∧ o = ro x (rdT E T t d)) ∨ ∃ (e q T k a b : Int) (y : ByteArray) (d2 : Int), po (stopV e q) (rd E.s E.F T k a b y d2) o ∧ ∀ o', po' (stopV e q) (rd E.s E.F T k a b y d2) o' → Post E d' ro' po' (res.bind h) o' := by
  cases res with
  | ok x l => obtain ⟨T, t, r, rfl, hA, rfl⟩ := hp; exact .inl ⟨x, T, t, r, rfl, hA, rfl⟩
  | more => obtain ⟨k, a, b, y, d2, ho⟩ := hp; exact .inr ⟨_, _, _, k, a, b, y, d2, ho, fun o' h' => ⟨k, a, b, y, d2, h'⟩⟩
  | err e l => obtain ⟨t, r, T, k, a, b, y, d2, rfl, hN, ho⟩ := hp; exact .inr ⟨_, _, _, k, a, b, y, d2, ho, fun o' h' => ⟨t, r, T, k, a, b, y, d2, rfl, hN, h'⟩⟩
  | out => exact absurd rfl hne
/-- a call ahead of the rest -/
theorem Rdr.seq {α β : Type} {g : FuncId} {args : List V} {B : List V → List (List V)} {d d' d'' : Nat} {p : Gr α} {ro : α → List V → Out} {po po' : V → List V → Out → Prop} {ro' : β → List V → Out} {h : α → Gr β} {k : Out → Id.T Out}
    {E : Env} {T : Nat} {t : Tk} {r : List Tk} (hD : DoesQ X g args (B (rdT E T t d)) (Post E d' ro po (runG p (t :: r)))) (hne : runG (p.bind h) (t :: r) ≠ .out)
    (hok : ∀ x T t r, At E T t r → runG (h x) (t :: r) ≠ .out → WP X (k (ro x (rdT E T t d'))) (Post E d'' ro' po' (runG (h x) (t :: r))))
    (hpan : ∀ (e q T k' a b : Int) (y : ByteArray) (d2 : Int) (o : Out), po (stopV e q) (rd E.s E.F T k' a b y d2) o → WP X (k o) (po' (stopV e q) (rd E.s E.F T k' a b y d2))) :
    WP X (.call g args (B (rdT E T t d)) k) (Post E d'' ro' po' (runG (p.bind h) (t :: r))) := by
  refine WP.use hD fun o ho => ?_
  rw [runG_bind] at hne ⊢
  rcases Post.pan (h := fun x r => runG (h x) r) (d' := d'') (ro' := ro') (po' := po') ho hne with ⟨x, T', t', r', hr, hA, rfl⟩ | ⟨e, q, T', k', a, b, y, d2, ho', hk⟩
  · rw [hr] at hne ⊢
    exact hok x T' t' r' hA hne
  · exact (hpan e q T' k' a b y d2 o ho').mono hk
theorem Rdr.use {α β : Type} {g : FuncId} {args : List V} {B : List V → List (List V)} {d d' d'' : Nat} {p : Gr α} {ro : α → List V → Out} {po po' : V → List V → Out → Prop} {ro' : β → List V → Out} {h : α → Gr β} {k : Out → Id.T Out}
    {E : Env} {T : Nat} {t : Tk} {r : List Tk} (hD : Rdr X g args B d d' p ro po) (hA : At E T t r) (hne : runG (p.bind h) (t :: r) ≠ .out)
    (hok : ∀ x T t r, At E T t r → runG (h x) (t :: r) ≠ .out → WP X (k (ro x (rdT E T t d'))) (Post E d'' ro' po' (runG (h x) (t :: r))))
    (hpan : ∀ (e q T k' a b : Int) (y : ByteArray) (d2 : Int) (o : Out), po (stopV e q) (rd E.s E.F T k' a b y d2) o → WP X (k o) (po' (stopV e q) (rd E.s E.F T k' a b y d2))) :
    WP X (.call g args (B (rdT E T t d)) k) (Post E d'' ro' po' (runG (p.bind h) (t :: r))) := by
  refine Rdr.seq (hD E T t r hA fun e => hne ?_) hne hok hpan
  rw [runG_bind, e]; rfl
theorem Round.mono {γ : Type} {c : Code} {K : Ex → St → Id.T γ} {Q1 Q2 : γ → Prop} (h : ∀ o, Q1 o → Q2 o) : ∀ x : Ex × St, Round X c K Q1 x → Round X c K Q2 x
  | (.normal, σ), r => WP.mono r h
  | (.exit i, σ), ⟨σ3, w, r⟩ => ⟨σ3, w, WP.mono r h⟩
  | (.ret, σ), ⟨σ3, w, r⟩ => ⟨σ3, w, WP.mono r h⟩
  | (.pan v, σ), r => WP.mono r h
/-- a call ahead of the rest, in a loop -/
theorem Rdr.seqL {α β : Type} {g : FuncId} {args : List V} {B : List V → List (List V)} {d d' d'' : Nat} {p : Gr α} {ro : α → List V → Out} {po po' : V → List V → Out → Prop} {ro' : β → List V → Out} {h : α → Gr β} {c : Code} {K : Ex → St → Id.T Out} {k : Out → Id.T (Ex × St)}
    {E : Env} {T : Nat} {t : Tk} {r : List Tk} (hD : DoesQ X g args (B (rdT E T t d)) (Post E d' ro po (runG p (t :: r)))) (hne : runG (p.bind h) (t :: r) ≠ .out)
    (hok : ∀ x T t r, At E T t r → runG (h x) (t :: r) ≠ .out → WP X (k (ro x (rdT E T t d'))) (Round X c K (Post E d'' ro' po' (runG (h x) (t :: r)))))
    (hpan : ∀ (e q T k' a b : Int) (y : ByteArray) (d2 : Int) (o : Out), po (stopV e q) (rd E.s E.F T k' a b y d2) o → WP X (k o) (Round X c K (po' (stopV e q) (rd E.s E.F T k' a b y d2)))) :
    WP X (.call g args (B (rdT E T t d)) k) (Round X c K (Post E d'' ro' po' (runG (p.bind h) (t :: r)))) := by
  refine WP.use hD fun o ho => ?_
  rw [runG_bind] at hne ⊢
  rcases Post.pan (h := fun x r => runG (h x) r) (d' := d'') (ro' := ro') (po' := po') ho hne with ⟨x, T', t', r', hr, hA, rfl⟩ | ⟨e, q, T', k', a, b, y, d2, ho', hk⟩
  · rw [hr] at hne ⊢
    exact hok x T' t' r' hA hne
  · exact (hpan e q T' k' a b y d2 o ho').mono (Round.mono hk)
theorem Rdr.useL {α β : Type} {g : FuncId} {args : List V} {B : List V → List (List V)} {d d' d'' : Nat} {p : Gr α} {ro : α → List V → Out} {po po' : V → List V → Out → Prop} {ro' : β → List V → Out} {h : α → Gr β} {c : Code} {K : Ex → St → Id.T Out} {k : Out → Id.T (Ex × St)}
    {E : Env} {T : Nat} {t : Tk} {r : List Tk} (hD : Rdr X g args B d d' p ro po) (hA : At E T t r) (hne : runG (p.bind h) (t :: r) ≠ .out)
    (hok : ∀ x T t r, At E T t r → runG (h x) (t :: r) ≠ .out → WP X (k (ro x (rdT E T t d'))) (Round X c K (Post E d'' ro' po' (runG (h x) (t :: r)))))
    (hpan : ∀ (e q T k' a b : Int) (y : ByteArray) (d2 : Int) (o : Out), po (stopV e q) (rd E.s E.F T k' a b y d2) o → WP X (k o) (Round X c K (po' (stopV e q) (rd E.s E.F T k' a b y d2)))) :
    WP X (.call g args (B (rdT E T t d)) k) (Round X c K (Post E d'' ro' po' (runG (p.bind h) (t :: r)))) := by
  refine Rdr.seqL (hD E T t r hA fun e => hne ?_) hne hok hpan
  rw [runG_bind, e]; rfl
/-- the next token is taken, ahead of the rest -/
theorem Rdr.next {β : Type} (hX : LibX X) {d d'' : Nat} {po' : V → List V → Out → Prop} {ro' : β → List V → Out} {g : Gr β} {k : Out → Id.T Out} {E : Env} {T : Nat} {t : Tk} {r : List Tk} (hA : At E T t r) (hk : t.k ≠ 0) (hne : runG (.next g) (t :: r) ≠ .out)
    (hok : ∀ T' t' r', At E T' t' r' → runG g (t' :: r') ≠ .out → WP X (k (.ret (.tuple [vS t.s, vI t.a]) [rdT E T' t' d])) (Post E d'' ro' po' (runG g (t' :: r'))))
    (hpan : ∀ (e q T k' a b : Int) (y : ByteArray) (d2 : Int), WP X (k (.pan (stopV e q) [rd E.s E.F T k' a b y d2])) (po' (stopV e q) (rd E.s E.F T k' a b y d2))) :
    WP X (.call 94 [.box base 0] [rdT E T t d] k) (Post E d'' ro' po' (runG (.next g) (t :: r))) := by
  refine WP.use (r_next hX E T t r hA hk d) fun o ho => ?_
  cases r with
  | nil =>
    obtain ⟨k', a, b, y, d2, rfl⟩ := ho
    exact (hpan _ _ _ _ _ _ _ _).mono fun o' h' => ⟨k', a, b, y, d2, h'⟩
  | cons u r =>
    obtain ⟨T', t', r', hl, hA', rfl⟩ := ho
    rw [hl] at hne ⊢
    exact hok T' t' r' hA' hne
theorem Rdr.nextL {β : Type} (hX : LibX X) {d d'' : Nat} {po' : V → List V → Out → Prop} {ro' : β → List V → Out} {g : Gr β} {c : Code} {K : Ex → St → Id.T Out} {k : Out → Id.T (Ex × St)} {E : Env} {T : Nat} {t : Tk} {r : List Tk} (hA : At E T t r) (hk : t.k ≠ 0) (hne : runG (.next g) (t :: r) ≠ .out)
    (hok : ∀ T' t' r', At E T' t' r' → runG g (t' :: r') ≠ .out → WP X (k (.ret (.tuple [vS t.s, vI t.a]) [rdT E T' t' d])) (Round X c K (Post E d'' ro' po' (runG g (t' :: r')))))
    (hpan : ∀ (e q T k' a b : Int) (y : ByteArray) (d2 : Int), WP X (k (.pan (stopV e q) [rd E.s E.F T k' a b y d2])) (Round X c K (po' (stopV e q) (rd E.s E.F T k' a b y d2)))) :
    WP X (.call 94 [.box base 0] [rdT E T t d] k) (Round X c K (Post E d'' ro' po' (runG (.next g) (t :: r)))) := by
  refine WP.use (r_next hX E T t r hA hk d) fun o ho => ?_
  cases r with
  | nil =>
    obtain ⟨k', a, b, y, d2, rfl⟩ := ho
    exact (hpan _ _ _ _ _ _ _ _).mono (Round.mono fun o' h' => ⟨k', a, b, y, d2, h'⟩)
  | cons u r =>
    obtain ⟨T', t', r', hl, hA', rfl⟩ := ho
    rw [hl] at hne ⊢
    exact hok T' t' r' hA' hne
/-- it can't stand there -/
theorem Rdr.fail {β : Type} {d d'' : Nat} {po' : V → List V → Out → Prop} {ro' : β → List V → Out} {e : Nat} {k : Out → Id.T Out} {E : Env} {T : Nat} {t : Tk} {r : List Tk} (hA : At E T t r)
    (hpan : ∀ (e q T k' a b : Int) (y : ByteArray) (d2 : Int), WP X (k (.pan (stopV e q) [rd E.s E.F T k' a b y d2])) (po' (stopV e q) (rd E.s E.F T k' a b y d2))) :
    WP X (.call 89 [.box base 0, vI (e : Nat)] [rdT E T t d] k) (Post E d'' ro' po' (.err e (t :: r))) := by
  refine WP.use1 (r_fail _ _ _ _ _ _ _ _ _) ?_
  exact (hpan _ _ _ _ _ _ _ _).mono fun o' h' => ⟨t, r, T, t.k, t.a, _, t.s, d, rfl, by simpa using hA.n, h'⟩
/-- a panic leaves the function -/
theorem WP.finPan1 {fn : Func} {σ : St} {e q : Int} {s : ByteArray} {F T k a b : Int} {y : ByteArray} {d : Int} (gb : getB σ.b base = some (rd s F T k a b y d)) : WP X (fin tt fn 1 (.pan (stopV e q), σ)) (po1 (stopV e q) (rd s F T k a b y d)) := by
  have h : outB σ 1 1 = some [rd s F T k a b y d] := by
    have e : getB σ.b (base + (1 - (0 + 1))) = some (rd s F T k a b y d) := gb
    simp only [outB]
    rw [e]; rfl
  unfold fin
  rw [h]
  exact WP.leaf rfl
theorem isT_is (t : Tk) (x : ByteArray) : ((decide ((t.k : Int) = 5) || decide ((t.k : Int) = 4)) && [x].any fun y => decide (t.s = y)) = isT t x := by
  unfold isT
  have h5 : ((t.k : Int) = 5) ↔ t.k = 5 := by omega
  have h4 : ((t.k : Int) = 4) ↔ t.k = 4 := by omega
  simp [h5, h4]
theorem isAny_is (t : Tk) (xs : List ByteArray) : ((decide ((t.k : Int) = 5) || decide ((t.k : Int) = 4)) && xs.any fun y => decide (t.s = y)) = isAny t xs := by
  unfold isAny
  have h5 : ((t.k : Int) = 5) ↔ t.k = 5 := by omega
  have h4 : ((t.k : Int) = 4) ↔ t.k = 4 := by omega
  simp [h5, h4]
theorem isT_k {t : Tk} {x : ByteArray} (h : isT t x = true) : t.k ≠ 0 := by unfold isT at h; simp at h; omega
theorem isAny_k {t : Tk} {xs : List ByteArray} (h : isAny t xs = true) : t.k ≠ 0 := by unfold isAny at h; simp at h; omega
/-- is one sign, or key, next? -/
theorem r_is1 (x : ByteArray) (E : Env) (T : Nat) (t : Tk) (d : Nat) : Does X 90 [.box base 0, .d (.sl 1 [[.str x]])] [rdT E T t d] (.ret (vB (isT t x)) [rdT E T t d]) := by
  have := r_is (X := X) [x] (by simp) E.s E.F T t.k t.a ((t.a + t.s.size : Nat) : Int) t.s d
  rw [isT_is] at this
  exact this
theorem r_isA (xs : List ByteArray) (hx : xs.length ≤ 1048576) (E : Env) (T : Nat) (t : Tk) (d : Nat) : Does X 90 [.box base 0, .d (.sl 1 (rowS xs))] [rdT E T t d] (.ret (vB (isAny t xs)) [rdT E T t d]) := by
  have := r_is (X := X) xs hx E.s E.F T t.k t.a ((t.a + t.s.size : Nat) : Int) t.s d
  rw [isAny_is] at this
  exact this
abbrev roN (x : Nat) (c : List V) : Out := .ret (vI x) [c]
abbrev roU (x : Unit) (c : List V) : Out := .ret (.tuple []) [c]
abbrev roW (x : ByteArray × Nat) (c : List V) : Out := .ret (.tuple [vS x.1, vI x.2]) [c]
theorem r_must (hX : LibX X) (x : ByteArray) (d : Nat) : Rdr X 91 [.box base 0, vS x] B1 d d (gMust x) roN po1 := by
  intro E T t r hA hne
  refine DoesQ.of Tryz.func91 (by kernel_rfl) ?_
  refine WP.use1 (r_is1 x E T t d) ?_
  have e : runG (gMust x) (t :: r) = runG (match isT t x with | true => .next (.ret t.a) | false => .err 140) (t :: r) := rfl
  rw [e] at hne ⊢
  cases h : isT t x with
  | false =>
    refine WP.iteT rfl ?_
    rw [h] at hne
    refine WP.use1 (r_fail _ _ _ _ _ _ _ _ _) ?_
    exact WP.leaf ⟨t, r, T, t.k, t.a, _, t.s, d, rfl, by simpa using hA.n, rfl⟩
  | true =>
    refine WP.iteF rfl ?_
    rw [h] at hne
    refine Rdr.seq (B := B1) (p := .next (.ret (t.s, t.a))) (h := fun x => .ret x.2) (r_next hX E T t r hA (isT_k h) d) hne ?_ ?_
    · intro x T t r hA hne
      exact WP.leaf ⟨T, t, r, rfl, hA, rfl⟩
    · rintro e q T k' a b y d2 o rfl; exact WP.leaf rfl

theorem r_close (hX : LibX X) (x : ByteArray) (d : Nat) (hd : d ≤ 64) : Rdr X 123 [.box base 0, vS x] B1 (d + 1) d (gMust x) (fun _ c => roU () c) po1 := by
  intro E T t r hA hne
  refine DoesQ.of Tryz.func123 (by kernel_rfl) ?_
  have e : gMust x = (gMust x).bind fun y => .ret y := by unfold gMust; simp only [Gr.bind]; congr 1; funext t; cases isT t x <;> rfl
  rw [e] at hne ⊢
  refine Rdr.use (r_must hX x (d + 1)) hA hne ?_ ?_
  · intro y T t r hA hne
    refine WP.leaf ⟨T, t, r, rfl, hA, ?_⟩
    show Out.ret _ [rd _ _ _ _ _ _ _ (IntKind.i64.wrap (((d + 1 : Nat) : Int) - 1))] = _
    rw [show (((d + 1 : Nat) : Int) - 1) = (d : Int) by omega, wrapI (by omega) (by omega)]
  · rintro e q T k' a b y d2 o rfl; exact WP.leaf rfl
/-- a level more, or too deep -/
theorem r_enter (E : Env) (T : Nat) (t : Tk) (d : Nat) (hd : d < 64) : Does X 161 [.box base 0] [rdT E T t d] (.ret (.tuple []) [rdT E T t (d + 1)]) := by
  refine DoesQ.eq (DoesQ.of Tryz.func161 (by kernel_rfl) ?_)
  have e : IntKind.i64.wrap ((d : Int) + 1) = ((d + 1 : Nat) : Int) := by rw [wrapI (by omega) (by omega)]; rfl
  refine WP.iteF (by rw [e]; exact decide_eq_false (by omega)) ?_
  exact WP.leaf (by rw [e])
theorem r_enter_deep (E : Env) (T : Nat) (t : Tk) (r : List Tk) (hA : At E T t r) (d : Nat) (hd : 64 ≤ d) (hd2 : d ≤ 64) : Does X 161 [.box base 0] [rdT E T t d] (.pan (stopV 141 t.a) [rdT E T t (d + 1)]) := by
  refine DoesQ.eq (DoesQ.of Tryz.func161 (by kernel_rfl) ?_)
  have e : IntKind.i64.wrap ((d : Int) + 1) = ((d + 1 : Nat) : Int) := by rw [wrapI (by omega) (by omega)]; rfl
  refine WP.iteT (by rw [e]; exact decide_eq_true (by omega)) ?_
  refine WP.use1 (r_fail _ _ _ _ _ _ _ _ _) ?_
  exact WP.leaf (by rw [e])
theorem r_open (hX : LibX X) (x : ByteArray) (d : Nat) (hd : d ≤ 64) : Rdr X 121 [.box base 0, vS x] B1 d (d + 1) (gOpen x d) roU po1 := by
  intro E T t r hA hne
  refine DoesQ.of Tryz.func121 (by kernel_rfl) ?_
  refine WP.use1 (r_is1 x E T t d) ?_
  have e : runG (gOpen x d) (t :: r) = runG (match isT t x with | true => (match decide (64 ≤ d) with | true => .err 141 | false => .next (.ret ())) | false => .err 140) (t :: r) := rfl
  rw [e] at hne ⊢
  cases h : isT t x with
  | false =>
    refine WP.iteT rfl ?_
    refine WP.use1 (r_fail _ _ _ _ _ _ _ _ _) ?_
    exact WP.leaf ⟨t, r, T, t.k, t.a, _, t.s, d, rfl, by simpa using hA.n, rfl⟩
  | true =>
    refine WP.iteF rfl ?_
    rw [h] at hne
    by_cases h64 : 64 ≤ d
    · refine WP.use1 (r_enter_deep E T t r hA d h64 hd) ?_
      refine WP.leaf ?_
      simp only [decide_eq_true h64]
      exact ⟨t, r, T, t.k, t.a, _, t.s, _, rfl, by simpa using hA.n, rfl⟩
    · refine WP.use1 (r_enter E T t d (by omega)) ?_
      simp only [decide_eq_false h64] at hne ⊢
      refine Rdr.seq (B := B1) (p := .next (.ret (t.s, t.a))) (h := fun _ => .ret ()) (r_next hX E T t r hA (isT_k h) (d + 1)) hne ?_ ?_
      · intro x T t r hA hne
        exact WP.leaf ⟨T, t, r, rfl, hA, rfl⟩
      · rintro e q T k' a b y d2 o rfl; exact WP.leaf rfl
/-- a level opens, ahead of the rest: there was room for it -/
theorem Rdr.opened {β : Type} (hX : LibX X) {x : ByteArray} {d d'' : Nat} {po' : V → List V → Out → Prop} {ro' : β → List V → Out} {h : Unit → Gr β} {k : Out → Id.T Out} {E : Env} {T : Nat} {t : Tk} {r : List Tk} (hd : d ≤ 64) (hA : At E T t r) (hne : runG ((gOpen x d).bind h) (t :: r) ≠ .out)
    (hok : d < 64 → ∀ T' t' r', At E T' t' r' → runG (h ()) (t' :: r') ≠ .out → WP X (k (roU () (rdT E T' t' (d + 1)))) (Post E d'' ro' po' (runG (h ()) (t' :: r'))))
    (hpan : ∀ (e q T k' a b : Int) (y : ByteArray) (d2 : Int), WP X (k (.pan (stopV e q) [rd E.s E.F T k' a b y d2])) (po' (stopV e q) (rd E.s E.F T k' a b y d2))) :
    WP X (.call 121 [.box base 0, vS x] [rdT E T t d] k) (Post E d'' ro' po' (runG ((gOpen x d).bind h) (t :: r))) := by
  have h1 : runG (gOpen x d) (t :: r) ≠ .out := fun e => hne (by rw [runG_bind, e]; rfl)
  refine WP.use (r_open hX x d hd E T t r hA h1) fun o ho => ?_
  rw [runG_bind] at hne ⊢
  rcases Post.pan (h := fun x r => runG (h x) r) (d' := d'') (ro' := ro') (po' := po') ho hne with ⟨x', T', t', r', hr, hA', rfl⟩ | ⟨e, q, T', k', a, b, y, d2, rfl, hk⟩
  · rw [hr] at hne ⊢
    refine hok ?_ T' t' r' hA' hne
    have e : runG (gOpen x d) (t :: r) = runG (match isT t x with | true => (match decide (64 ≤ d) with | true => .err 141 | false => .next (.ret ())) | false => .err 140) (t :: r) := rfl
    rw [e] at hr
    cases hi : isT t x with
    | false => rw [hi] at hr; cases hr
    | true =>
      rw [hi] at hr
      by_cases h64 : 64 ≤ d
      · simp only [decide_eq_true h64] at hr; cases hr
      · omega
  · exact (hpan e q T' k' a b y d2).mono hk
theorem r_of (hX : LibX X) (k : Nat) (hk : k ≠ 0) (d : Nat) : Rdr X 92 [.box base 0, vI (k : Nat)] B1 d d (gOf k) roW po1 := by
  intro E T t r hA hne
  refine DoesQ.of Tryz.func92 (by kernel_rfl) ?_
  have e : runG (gOf k) (t :: r) = runG (match decide (t.k = k) with | true => .next (.ret (t.s, t.a)) | false => .err 140) (t :: r) := rfl
  rw [e] at hne ⊢
  by_cases h : t.k = k
  · refine WP.iteF (by simp [h]) ?_
    simp only [decide_eq_true h] at hne ⊢
    refine Rdr.seq (B := B1) (p := .next (.ret (t.s, t.a))) (h := fun x => .ret x) (r_next hX E T t r hA (by omega) d) hne ?_ ?_
    · intro x T t r hA hne
      exact WP.leaf ⟨T, t, r, rfl, hA, rfl⟩
    · rintro e q T k' a b y d2 o rfl; exact WP.leaf rfl
  · refine WP.iteT (by simp; omega) ?_
    refine WP.use1 (r_fail _ _ _ _ _ _ _ _ _) ?_
    refine WP.leaf ?_
    simp only [decide_eq_false h]
    exact ⟨t, r, T, t.k, t.a, _, t.s, d, rfl, by simpa using hA.n, rfl⟩
theorem r_kind (hX : LibX X) (d : Nat) : Rdr X 122 [.box base 0] B1 d d pType (fun x c => .ret (vI x) [c]) po1 := by
  intro E T t r hA hne
  refine DoesQ.of Tryz.func122 (by kernel_rfl) ?_
  refine WP.use1 (r_isA [kInt, kBool, kText] (by simp) E T t d) ?_
  have e : runG pType (t :: r) = runG (match isAny t [kInt, kBool, kText] with | true => .next (.ret (if t.s = kInt then (1 : Int) else if t.s = kBool then 2 else 3)) | false => .err 140) (t :: r) := rfl
  rw [e] at hne ⊢
  cases h : isAny t [kInt, kBool, kText] with
  | false =>
    refine WP.iteT rfl ?_
    refine WP.use1 (r_fail _ _ _ _ _ _ _ _ _) ?_
    exact WP.leaf ⟨t, r, T, t.k, t.a, _, t.s, d, rfl, by simpa using hA.n, rfl⟩
  | true =>
    refine WP.iteF rfl ?_
    rw [h] at hne
    refine Rdr.seq (B := B1) (p := .next (.ret (t.s, t.a))) (h := fun x => .ret (if x.1 = kInt then 1 else if x.1 = kBool then 2 else 3)) (r_next hX E T t r hA (isAny_k h) d) hne ?_ ?_
    · intro x T t r hA hne
      by_cases h1 : x.1 = kInt
      · refine WP.iteT (decide_eq_true h1) ?_
        exact WP.leaf ⟨T, t, r, rfl, hA, by simp only [if_pos h1]⟩
      refine WP.iteF (decide_eq_false h1) ?_
      by_cases h2 : x.1 = kBool
      · refine WP.iteT (decide_eq_true h2) ?_
        exact WP.leaf ⟨T, t, r, rfl, hA, by simp only [if_neg h1, if_pos h2]⟩
      refine WP.iteF (decide_eq_false h2) ?_
      exact WP.leaf ⟨T, t, r, rfl, hA, by simp only [if_neg h1, if_neg h2]⟩
    · rintro e q T k' a b y d2 o rfl; exact WP.leaf rfl
end Go.Proofs.YtaddhpeainliiaaGreatDoor.Id
/-! ## PaEx -/
namespace Go.Proofs.YtaddhpeainliiaaGreatDoor.Id
open Go
set_option linter.unusedVariables false
set_option linter.unusedSimpArgs false
variable {X : Given}
def TExpr.k : TExpr → Int | .mk k _ _ _ _ _ _ => k
def TExpr.a : TExpr → Int | .mk _ a _ _ _ _ _ => a
def TExpr.of : TExpr → ByteArray | .mk _ _ o _ _ _ _ => o
def TExpr.nm : TExpr → ByteArray | .mk _ _ _ n _ _ _ => n
def TExpr.v : TExpr → TVal | .mk _ _ _ _ v _ _ => v
def TExpr.op : TExpr → Int | .mk _ _ _ _ _ o _ => o
def TExpr.kids : TExpr → List TExpr | .mk _ _ _ _ _ _ l => l
abbrev cZ (z : Int) : D := .int .i64 z
mutual
def dsOf : TExpr → List D
  | .mk k a of nm v op kids => [cZ k, cZ a, .str of, .str nm, cZ v.t, cZ v.i, .bool v.b, .str v.s, cZ op, .sl 10 (dsAll kids)]
def dsAll : List TExpr → List (List D)
  | [] => []
  | x :: r => dsOf x :: dsAll r
end
/-- an expression's cells -/
abbrev eD (e : TExpr) : List D := [cZ e.k, cZ e.a, .str e.of, .str e.nm, cZ e.v.t, cZ e.v.i, .bool e.v.b, .str e.v.s, cZ e.op, .sl 10 (dsAll e.kids)]
theorem dsOf_eq (e : TExpr) : dsOf e = eD e := by cases e; rfl
theorem dsAll_cons (x : TExpr) (r : List TExpr) : dsAll (x :: r) = eD x :: dsAll r := by rw [dsAll, dsOf_eq]
theorem dsAll1 (x : TExpr) : dsAll [x] = [eD x] := by rw [dsAll_cons]; rfl
theorem dsAll2 (x y : TExpr) : dsAll [x, y] = [eD x, eD y] := by rw [dsAll_cons, dsAll_cons]; rfl
theorem dsAll_app : ∀ (a b : List TExpr), dsAll (a ++ b) = dsAll a ++ dsAll b
  | [], b => rfl
  | x :: r, b => by rw [List.cons_append, dsAll, dsAll, dsAll_app r b]; rfl
theorem dsAll_len : ∀ (a : List TExpr), (dsAll a).length = a.length
  | [] => rfl
  | x :: r => by rw [dsAll, List.length_cons, List.length_cons, dsAll_len r]
/-- an expression's cells in a box -/
abbrev eV (e : TExpr) : List V := [vI e.k, vI e.a, vS e.of, vS e.nm, vI e.v.t, vI e.v.i, vB e.v.b, vS e.v.s, vI e.op, .d (.sl 10 (dsAll e.kids))]
/-- a new box for an expression -/
abbrev e0V : List V := [vI 0, vI 0, vS .empty, vS .empty, vI 0, vI 0, vB false, vS .empty, vI 0, .d (.nil 10)]
theorem opGo_le : ∀ (l : List ByteArray) (s : ByteArray) (i : Nat), opGo l s i ≤ i + l.length
  | [], s, i => Nat.zero_le _
  | x :: r, s, i => by
    unfold opGo
    split
    · simp
    · have := opGo_le r s (i + 1); simp only [List.length_cons]; omega
theorem op_loop (s : ByteArray) (K : Ex → St → Id.T Out) (Q : Out → Prop) (hE : opOf s = 0 → WP X (K (.exit 0) ⟨[], []⟩) Q) (hR : ∀ i : Nat, opOf s = i → i ≠ 0 → WP X (K .ret ⟨[(2, vI i)], []⟩) Q) :
    ∀ (r : List ByteArray) (i : Nat), opSigns.drop i = r → opGo r s (i + 1) = opGo opSigns s 1 → i ≤ 14 → ∀ σ : St, getT σ.t 0 = vS s → getT σ.t 7 = .agg (cellS opSigns) → getT σ.t 8 = vI i → WP X (.loop (lp Tryz.f159 0) σ K) Q
  | r, i, h, he, hi, σ, g0, g7, g8 => by
    refine WP.round ⟨[(0, vS s), (7, .agg (cellS opSigns)), (8, vI i)], []⟩ ⟨⟨.inl g0.symm, .inl g7.symm, .inl g8.symm, trivial⟩, trivial⟩ ?_
    cases r with
    | nil =>
      have h1 : 14 ≤ i := drop_none h
      refine WP.iteF (decide_eq_false (by omega)) ?_
      exact WP.leaf ⟨⟨[], []⟩, ⟨trivial, trivial⟩, hE (by unfold opOf; rw [← he]; rfl)⟩
    | cons x r =>
      have h1 : i < 14 := (drop_some h).1
      refine WP.iteT (decide_eq_true (by omega)) ?_
      refine WP.idx _ (by omega) (cellS_get h) ?_
      refine WP.dec (fun hx => ?_) (fun hx => ?_)
      · refine WP.leaf ⟨⟨[(2, vI ((i + 1 : Nat) : Int))], []⟩, ⟨⟨.inl ?_, trivial⟩, trivial⟩, hR (i + 1) ?_ (by omega)⟩
        · show _ = vI (IntKind.i64.wrap (1 + (i : Int)))
          rw [show (1 : Int) + (i : Int) = ((i + 1 : Nat) : Int) by omega, wrapI (by omega) (by omega)]
        · unfold opOf; rw [← he]; unfold opGo; rw [decide_eq_true hx]
      · refine WP.leaf (op_loop s K Q hE hR r (i + 1) (drop_some h).2.2 ?_ (by omega) _ rfl rfl ?_)
        · rw [← he]; conv => rhs; unfold opGo
          rw [decide_eq_false hx]
        · show vI (IntKind.i64.wrap ((i : Int) + 1)) = _
          rw [wrapI (by omega) (by omega)]; rfl
theorem op_fn (s : ByteArray) : Does X 159 [vS s] [] (.ret (vI (opOf s)) []) := by
  refine DoesQ.eq (DoesQ.of Tryz.func159 (by kernel_rfl) ?_)
  refine op_loop s _ _ ?_ ?_ opSigns 0 rfl rfl (by omega) _ rfl rfl rfl
  · intro h; exact WP.leaf (by rw [h])
  · intro i h _; exact WP.leaf (by rw [h])
end Go.Proofs.YtaddhpeainliiaaGreatDoor.Id
/-! ## IdealX -/
namespace Go.Proofs.YtaddhpeainliiaaGreatDoor.Id
open Go
set_option linter.unusedVariables false
section
variable {I : World → Prop} {P : Program} {tt : TT} {X : Given}
/-- all cells that are there -/
def seen (w : World) : Aux := ⟨fun k o => if k < w.heap.size then w.cell? ⟨k, o, none⟩ else none, fun _ => 0, fun _ => none, fun _ => False⟩
theorem seen_wsim {w : World} (hI : I w) : WSim I w.heap.size (fun k => w.heap.size ≤ k) (seen w) [] w :=
  { inv := hI
    big := fun _ h => h
    top := fun _ h => h
    agree := fun k o v h => by
      simp only [seen] at h
      split at h
      · exact h
      · cases h
    box := fun i cs h => by cases h
    inj := fun i j cs ds h => by cases h
    zone := fun t k s e h => by cases h
    zinj := fun t t' k s e s' e' h => by cases h
    zbox := fun t k s e i cs h => by cases h
    uu := fun k h => h.elim
    kt := fun i cs h => by cases h }
/-- a call that the ideal machine brings to true -/
theorem row_of (hm : P.follows .mixedOrders = true) (htt : TTok P tt) {w : World} (hS : Stable I w.heap.size) (hX : GivenOK P X I w.heap.size) (hI : I w) {f : FuncId} {fn : Func} {args : List V} (hf : P.funcs[f]? = some fn) {vs : Array Value} (hargs : RepVs (seen w) args vs.toList)
    {G : Option (List Nat)} (h : Den P tt X (evBody tt G fn args []) (.ret (.d (.bool true)) [])) : Calls P f vs w fun e w' => e = .returned (.bool true) ∧ Go.RowKit.Below w.heap.size w w' := by
  refine (sound hm htt hS hX hf h _ (seen w) w vs hargs (seen_wsim hI)).mono fun e w' ⟨x', hE, rv, he, hr, _⟩ => ?_
  refine ⟨?_, ⟨hE.os, hE.tape, hE.output, hE.size, fun k hk => hE.blk k (by omega)⟩⟩
  rw [he]
  have : RepD x'.h rv (.bool true) := hr
  cases this
  rfl
end
end Go.Proofs.YtaddhpeainliiaaGreatDoor.Id
/-! ## PaRow -/
namespace Go.Proofs.YtaddhpeainliiaaGreatDoor.Id
open Go
set_option linter.unusedVariables false
set_option linter.unusedSimpArgs false
variable {X : Given}
abbrev roE (e : TExpr) (c : List V) : Out := .ret (.agg (eD e)) [c]
/-- the reader's variable ahead of the reader -/
abbrev B2 (c : List V) : List (List V) := [[.box (base + 1) 0], c]
abbrev roE2 (e : TExpr) (c : List V) : Out := .ret (.agg (eD e)) [[.box (base + 1) 0], c]
abbrev po2 (v : V) (c : List V) (o : Out) : Prop := o = .pan v [[.box (base + 1) 0], c]
/-- the reader ahead of its variable -/
abbrev B3 (c : List V) : List (List V) := [c, [.box base 0]]
abbrev roE3 (e : TExpr) (c : List V) : Out := .ret (.agg (eD e)) [c, [.box base 0]]
abbrev po3 (v : V) (c : List V) (o : Out) : Prop := o = .pan v [c, [.box base 0]]
theorem WP.finPan2 {fn : Func} {σ : St} {e q : Int} {s : ByteArray} {F T k a b : Int} {y : ByteArray} {d : Int} (gb : getB σ.b base = some (rd s F T k a b y d)) (gp : getB σ.b (base + 1) = some [.box base 0]) : WP X (fin tt fn 2 (.pan (stopV e q), σ)) (po3 (stopV e q) (rd s F T k a b y d)) := by
  have h : outB σ 2 2 = some [rd s F T k a b y d, [.box base 0]] := by
    have e : getB σ.b (base + (2 - (1 + 1))) = some (rd s F T k a b y d) := gb
    have e1 : getB σ.b (base + (2 - (0 + 1))) = some [.box base 0] := gp
    simp only [outB]
    rw [e, e1]; rfl
  unfold fin
  rw [h]
  exact WP.leaf rfl
set_option maxHeartbeats 1000000

/-- operators of one line, behind the first operand (a method value) -/
theorem row_loopA (hX : LibX X) (g : FuncId) (d k : Nat) (hk : k ≠ 2) (hk4 : k ≤ 4) : ∀ (n : Nat), (∀ m, m < n → Rdr X g [.box base 0] B1 d d (pLine m (k + 1) d) roE po1) →
    ∀ (E : Env) (K : Ex → St → Id.T Out) (hE : ∀ T t r e, At E T t r → WP X (K (.exit 0) ⟨[(0, .box base 0), (6, .box 6 0), (7, .box 7 0)], [(base, rdT E T t d), (6, e0V), (7, eV e)]⟩) (Post E d roE po1 (.ok e (t :: r))))
      (hP : ∀ (e q T k a b : Int) (y : ByteArray) (d2 : Int) (σ : St), getB σ.b base = some (rd E.s E.F T k a b y d2) → WP X (K (.pan (stopV e q)) σ) (po1 (stopV e q) (rd E.s E.F T k a b y d2)))
      (T : Nat) (t : Tk) (r : List Tk) (e : TExpr), At E T t r → runG (pTail n k d e) (t :: r) ≠ .out → ∀ σ : St, getT σ.t 0 = .box base 0 → getT σ.t 1 = .fn g [.box base 0] [] → getT σ.t 2 = .d (.sl 1 (rowS (signs k))) → getT σ.t 6 = .box 6 0 → getT σ.t 7 = .box 7 0 →
      getB σ.b base = some (rdT E T t d) → getB σ.b 6 = some e0V → getB σ.b 7 = some (eV e) → WP X (.loop (lp Tryz.f118 0) σ K) (Post E d roE po1 (runG (pTail n k d e) (t :: r)))
  | 0, _, E, K, hE, hP, T, t, r, e, hA, hne, σ, _, _, _, _, _, _, _, _ => absurd rfl hne
  | n + 1, hone, E, K, hE, hP, T, t, r, e, hA, hne, σ, g0, g1, g2, g6, g7, gb, b6, b7 => by
    have hk2 : decide (k = 2) = false := decide_eq_false hk
    have hl : (signs k).length ≤ 1048576 := by unfold signs; split <;> simp
    have e1 : runG (pTail (n + 1) k d e) (t :: r) = runG (match isAny t (signs k) with | true => .next ((pLine n (k + 1) d).bind fun e2 => pTail n k d (bin t.a t.s e e2)) | false => .ret e) (t :: r) := by
      show runG (match isAny t (signs k) with | true => .next ((pLine n (k + 1) d).bind fun e2 => match decide (k = 2) with | true => .ret (bin t.a t.s e e2) | false => pTail n k d (bin t.a t.s e e2)) | false => .ret e) (t :: r) = _
      rw [hk2]
    rw [e1] at hne ⊢
    refine WP.round ⟨[(0, .box base 0), (1, .fn g [.box base 0] []), (2, .d (.sl 1 (rowS (signs k)))), (6, .box 6 0), (7, .box 7 0)], [(base, rdT E T t d), (6, e0V), (7, eV e)]⟩
      ⟨⟨.inl g0.symm, .inl g1.symm, .inl g2.symm, .inl g6.symm, .inl g7.symm, trivial⟩, ⟨WkB.box gb, WkB.box b6, WkB.box b7, trivial⟩⟩ ?_
    refine WP.use1 (r_isA (signs k) hl E T t d) ?_
    cases h : isAny t (signs k) with
    | false =>
      refine WP.iteF rfl ?_
      refine WP.leaf ⟨⟨[(0, .box base 0), (6, .box 6 0), (7, .box 7 0)], [(base, rdT E T t d), (6, e0V), (7, eV e)]⟩, ⟨⟨.inl rfl, .inl rfl, .inl rfl, trivial⟩, ⟨WkB.box rfl, WkB.box rfl, WkB.box rfl, trivial⟩⟩, hE T t r e hA⟩
    | true =>
      refine WP.iteT rfl ?_
      rw [h] at hne
      refine Rdr.seqL (B := B1) (p := .next (.ret (t.s, t.a))) (h := fun x => (pLine n (k + 1) d).bind fun e2 => pTail n k d (bin x.2 x.1 e e2)) (r_next hX E T t r hA (isAny_k h) d) hne ?_ ?_
      · intro x T t r hA hne
        refine WP.asrt (by kernel_rfl) ?_
        refine WP.use1 (op_fn x.1) ?_
        refine Rdr.useL (B := B1) (hone n (Nat.lt_succ_self n)) hA hne ?_ ?_
        · intro e2 T t r hA hne
          refine WP.asrt (by kernel_rfl) ?_
          refine WP.leaf (row_loopA hX g d k hk hk4 n (fun m hm => hone m (by omega)) E K hE hP T t r (bin x.2 x.1 e e2) hA hne _ rfl rfl rfl rfl rfl rfl rfl ?_)
          show some _ = some [_, _, _, _, _, _, _, _, _, V.d (.sl 10 (dsAll [e, e2]))]
          rw [dsAll2]; rfl
        · rintro z q T k' a b y d2 o rfl
          refine WP.asrt (by kernel_rfl) ?_
          exact WP.leaf (hP _ _ _ _ _ _ _ _ _ rfl)
      · rintro z q T k' a b y d2 o rfl
        exact WP.leaf (hP _ _ _ _ _ _ _ _ _ rfl)
theorem r_rowA (hX : LibX X) (g : FuncId) (d k : Nat) (hk : k ≠ 2) (hk4 : k ≤ 4) (n : Nat) (hone : ∀ m, m < n + 1 → Rdr X g [.box base 0] B1 d d (pLine m (k + 1) d) roE po1) :
    Rdr X 118 [.box base 0, .fn g [.box base 0] [], .d (.sl 1 (rowS (signs k)))] B1 d d (pLine (n + 1) k d) roE po1 := by
  intro E T t r hA hne
  have h5 : decide (k = 5) = false := decide_eq_false (by omega)
  have e1 : pLine (n + 1) k d = (pLine n (k + 1) d).bind fun e => pTail n k d e := by
    show (match decide (k = 5) with | true => pUnary n d | false => (pLine n (k + 1) d).bind fun e => pTail n k d e) = _
    rw [h5]
  rw [e1] at hne ⊢
  refine DoesQ.of Tryz.func118 (by kernel_rfl) ?_
  refine Rdr.use (B := B1) (hone n (Nat.lt_succ_self n)) hA hne ?_ ?_
  · intro e T t r hA hne
    refine row_loopA hX g d k hk hk4 n (fun m hm => hone m (by omega)) E _ ?_ ?_ T t r e hA hne _ rfl rfl rfl rfl rfl rfl rfl rfl
    · intro T t r e hA
      exact WP.leaf ⟨T, t, r, rfl, hA, rfl⟩
    · intro z q T k a b y d2 σ gb
      exact WP.finPan1 gb
  · rintro z q T k' a b y d2 o rfl
    exact WP.leaf rfl

/-- operators of one line, behind the first operand (a closure) -/
theorem row_loopB (hX : LibX X) (g : FuncId) (d k : Nat) (hk : k ≠ 2) (hk4 : k ≤ 4) : ∀ (n : Nat), (∀ m, m < n → Rdr X g [.box base 0] B2 d d (pLine m (k + 1) d) roE2 po2) →
    ∀ (E : Env) (K : Ex → St → Id.T Out) (hE : ∀ T t r e, At E T t r → WP X (K (.exit 0) ⟨[(0, .box base 0), (6, .box 6 0), (7, .box 7 0)], [(base, rdT E T t d), (base + 1, [.box base 0]), (6, e0V), (7, eV e)]⟩) (Post E d roE3 po3 (.ok e (t :: r))))
      (hP : ∀ (e q T k a b : Int) (y : ByteArray) (d2 : Int) (σ : St), getB σ.b base = some (rd E.s E.F T k a b y d2) → getB σ.b (base + 1) = some [.box base 0] → WP X (K (.pan (stopV e q)) σ) (po3 (stopV e q) (rd E.s E.F T k a b y d2)))
      (T : Nat) (t : Tk) (r : List Tk) (e : TExpr), At E T t r → runG (pTail n k d e) (t :: r) ≠ .out → ∀ σ : St, getT σ.t 0 = .box base 0 → getT σ.t 1 = .fn g [] [.box (base + 1) 0] → getT σ.t 2 = .d (.sl 1 (rowS (signs k))) → getT σ.t 6 = .box 6 0 → getT σ.t 7 = .box 7 0 →
      getB σ.b base = some (rdT E T t d) → getB σ.b (base + 1) = some [.box base 0] → getB σ.b 6 = some e0V → getB σ.b 7 = some (eV e) → WP X (.loop (lp Tryz.f118 0) σ K) (Post E d roE3 po3 (runG (pTail n k d e) (t :: r)))
  | 0, _, E, K, hE, hP, T, t, r, e, hA, hne, σ, _, _, _, _, _, _, _, _, _ => absurd rfl hne
  | n + 1, hone, E, K, hE, hP, T, t, r, e, hA, hne, σ, g0, g1, g2, g6, g7, gb, gp, b6, b7 => by
    have hk2 : decide (k = 2) = false := decide_eq_false hk
    have hl : (signs k).length ≤ 1048576 := by unfold signs; split <;> simp
    have e1 : runG (pTail (n + 1) k d e) (t :: r) = runG (match isAny t (signs k) with | true => .next ((pLine n (k + 1) d).bind fun e2 => pTail n k d (bin t.a t.s e e2)) | false => .ret e) (t :: r) := by
      show runG (match isAny t (signs k) with | true => .next ((pLine n (k + 1) d).bind fun e2 => match decide (k = 2) with | true => .ret (bin t.a t.s e e2) | false => pTail n k d (bin t.a t.s e e2)) | false => .ret e) (t :: r) = _
      rw [hk2]
    rw [e1] at hne ⊢
    refine WP.round ⟨[(0, .box base 0), (1, .fn g [] [.box (base + 1) 0]), (2, .d (.sl 1 (rowS (signs k)))), (6, .box 6 0), (7, .box 7 0)], [(base, rdT E T t d), (base + 1, [.box base 0]), (6, e0V), (7, eV e)]⟩
      ⟨⟨.inl g0.symm, .inl g1.symm, .inl g2.symm, .inl g6.symm, .inl g7.symm, trivial⟩, ⟨WkB.box gb, WkB.box gp, WkB.box b6, WkB.box b7, trivial⟩⟩ ?_
    refine WP.use1 (r_isA (signs k) hl E T t d) ?_
    cases h : isAny t (signs k) with
    | false =>
      refine WP.iteF rfl ?_
      refine WP.leaf ⟨⟨[(0, .box base 0), (6, .box 6 0), (7, .box 7 0)], [(base, rdT E T t d), (base + 1, [.box base 0]), (6, e0V), (7, eV e)]⟩, ⟨⟨.inl rfl, .inl rfl, .inl rfl, trivial⟩, ⟨WkB.box rfl, WkB.box rfl, WkB.box rfl, WkB.box rfl, trivial⟩⟩, hE T t r e hA⟩
    | true =>
      refine WP.iteT rfl ?_
      rw [h] at hne
      refine Rdr.seqL (B := B1) (p := .next (.ret (t.s, t.a))) (h := fun x => (pLine n (k + 1) d).bind fun e2 => pTail n k d (bin x.2 x.1 e e2)) (r_next hX E T t r hA (isAny_k h) d) hne ?_ ?_
      · intro x T t r hA hne
        refine WP.asrt (by kernel_rfl) ?_
        refine WP.use1 (op_fn x.1) ?_
        refine Rdr.useL (B := B2) (hone n (Nat.lt_succ_self n)) hA hne ?_ ?_
        · intro e2 T t r hA hne
          refine WP.asrt (by kernel_rfl) ?_
          refine WP.leaf (row_loopB hX g d k hk hk4 n (fun m hm => hone m (by omega)) E K hE hP T t r (bin x.2 x.1 e e2) hA hne _ rfl rfl rfl rfl rfl rfl rfl rfl ?_)
          show some _ = some [_, _, _, _, _, _, _, _, _, V.d (.sl 10 (dsAll [e, e2]))]
          rw [dsAll2]; rfl
        · rintro z q T k' a b y d2 o rfl
          refine WP.asrt (by kernel_rfl) ?_
          exact WP.leaf (hP _ _ _ _ _ _ _ _ _ rfl rfl)
      · rintro z q T k' a b y d2 o rfl
        exact WP.leaf (hP _ _ _ _ _ _ _ _ _ rfl rfl)
theorem r_rowB (hX : LibX X) (g : FuncId) (d k : Nat) (hk : k ≠ 2) (hk4 : k ≤ 4) (n : Nat) (hone : ∀ m, m < n + 1 → Rdr X g [.box base 0] B2 d d (pLine m (k + 1) d) roE2 po2) :
    Rdr X 118 [.box base 0, .fn g [] [.box (base + 1) 0], .d (.sl 1 (rowS (signs k)))] B3 d d (pLine (n + 1) k d) roE3 po3 := by
  intro E T t r hA hne
  have h5 : decide (k = 5) = false := decide_eq_false (by omega)
  have e1 : pLine (n + 1) k d = (pLine n (k + 1) d).bind fun e => pTail n k d e := by
    show (match decide (k = 5) with | true => pUnary n d | false => (pLine n (k + 1) d).bind fun e => pTail n k d e) = _
    rw [h5]
  rw [e1] at hne ⊢
  refine DoesQ.of Tryz.func118 (by kernel_rfl) ?_
  refine Rdr.use (B := B2) (hone n (Nat.lt_succ_self n)) hA hne ?_ ?_
  · intro e T t r hA hne
    refine row_loopB hX g d k hk hk4 n (fun m hm => hone m (by omega)) E _ ?_ ?_ T t r e hA hne _ rfl rfl rfl rfl rfl rfl rfl rfl rfl
    · intro T t r e hA
      exact WP.leaf ⟨T, t, r, rfl, hA, rfl⟩
    · intro z q T k a b y d2 σ gb gp
      exact WP.finPan2 gb gp
  · rintro z q T k' a b y d2 o rfl
    exact WP.leaf rfl
end Go.Proofs.YtaddhpeainliiaaGreatDoor.Id
/-! ## PaLine -/
namespace Go.Proofs.YtaddhpeainliiaaGreatDoor.Id
open Go
set_option linter.unusedVariables false
set_option linter.unusedSimpArgs false
set_option maxHeartbeats 1000000
variable {X : Given}
/-- a function of the reader does a line of the grammar, with so many rounds -/
abbrev LineA (X : Given) (g : FuncId) (k n : Nat) : Prop := ∀ d, d ≤ 64 → Rdr X g [.box base 0] B1 d d (pLine n k d) roE po1
abbrev LineB (X : Given) (g : FuncId) (k n : Nat) : Prop := ∀ d, d ≤ 64 → Rdr X g [.box base 0] B2 d d (pLine n k d) roE2 po2
abbrev UnaryA (X : Given) (n : Nat) : Prop := ∀ d, d ≤ 64 → Rdr X 188 [.box base 0] B1 d d (pUnary n d) roE po1
theorem Rdr.out {α : Type} {g : FuncId} {args : List V} {B : List V → List (List V)} {d d' : Nat} {ro : α → List V → Out} {po : V → List V → Out → Prop} : Rdr X g args B d d' (.out : Gr α) ro po := fun E T t r hA hne => absurd rfl hne
theorem bind_ret {α : Type} (p : Gr α) : p = p.bind fun x => .ret x := by
  induction p with
  | ret x => rfl
  | look f ih => simp only [Gr.bind]; congr 1; funext t; exact ih t
  | next g ih => simp only [Gr.bind]; rw [← ih]
  | err e => rfl
  | out => rfl
theorem line5 {n : Nat} (h : ∀ m, m < n → UnaryA X m) : LineA X 188 5 n := fun d hd => by
  cases n with
  | zero => exact Rdr.out
  | succ n => exact h n (Nat.lt_succ_self n) d hd
theorem line4 (hX : LibX X) {n : Nat} (h : ∀ m, m < n → LineA X 188 5 m) : LineB X 187 4 n := fun d hd => by
  cases n with
  | zero => exact Rdr.out
  | succ n =>
    intro E T t r hA hne
    refine DoesQ.of Tryz.func187 (by kernel_rfl) ?_
    rw [bind_ret (pLine (n + 1) 4 d)] at hne ⊢
    refine Rdr.use (B := B1) (r_rowA hX 188 d 4 (by omega) (by omega) n fun m hm => h m hm d hd) hA hne ?_ ?_
    · intro e T t r hA hne
      exact WP.leaf ⟨T, t, r, rfl, hA, rfl⟩
    · rintro z q T k' a b y d2 o rfl
      exact WP.leaf rfl
theorem line3 (hX : LibX X) {n : Nat} (h : ∀ m, m < n → LineB X 187 4 m) : LineA X 160 3 n := fun d hd => by
  cases n with
  | zero => exact Rdr.out
  | succ n =>
    intro E T t r hA hne
    refine DoesQ.of Tryz.func160 (by kernel_rfl) ?_
    rw [bind_ret (pLine (n + 1) 3 d)] at hne ⊢
    refine Rdr.use (B := B3) (r_rowB hX 187 d 3 (by omega) (by omega) n fun m hm => h m hm d hd) hA hne ?_ ?_
    · intro e T t r hA hne
      exact WP.leaf ⟨T, t, r, rfl, hA, rfl⟩
    · rintro z q T k' a b y d2 o rfl
      exact WP.leaf rfl
theorem line2 (hX : LibX X) {n : Nat} (h : ∀ m, m < n → LineA X 160 3 m) : LineA X 120 2 n := fun d hd => by
  cases n with
  | zero => exact Rdr.out
  | succ n =>
    intro E T t r hA hne
    refine DoesQ.of Tryz.func120 (by kernel_rfl) ?_
    have e1 : pLine (n + 1) 2 d = (pLine n 3 d).bind fun e => pTail n 2 d e := rfl
    rw [e1] at hne ⊢
    refine Rdr.use (B := B1) (h n (Nat.lt_succ_self n) d hd) hA hne ?_ ?_
    · intro e T t r hA hne
      cases n with
      | zero => exact absurd rfl hne
      | succ n =>
        refine WP.use1 (r_isA (signs 2) (by simp [signs]) E T t d) ?_
        have e2 : runG (pTail (n + 1) 2 d e) (t :: r) = runG (match isAny t (signs 2) with | true => .next ((pLine n 3 d).bind fun e2 => .ret (bin t.a t.s e e2)) | false => .ret e) (t :: r) := rfl
        rw [e2] at hne ⊢
        cases hs : isAny t (signs 2) with
        | false =>
          refine WP.iteF rfl ?_
          exact WP.leaf ⟨T, t, r, rfl, hA, rfl⟩
        | true =>
          refine WP.iteT rfl ?_
          rw [hs] at hne
          refine Rdr.seq (B := B1) (p := .next (.ret (t.s, t.a))) (h := fun x => (pLine n 3 d).bind fun e2 => .ret (bin x.2 x.1 e e2)) (r_next hX E T t r hA (isAny_k hs) d) hne ?_ ?_
          · intro x T t r hA hne
            refine WP.asrt (by kernel_rfl) ?_
            refine WP.use1 (op_fn x.1) ?_
            refine Rdr.use (B := B1) (h n (by omega) d hd) hA hne ?_ ?_
            · intro e2 T t r hA hne
              refine WP.asrt (by kernel_rfl) ?_
              refine WP.leaf ⟨T, t, r, rfl, hA, ?_⟩
              show Out.ret (.agg [_, _, _, _, _, _, _, _, _, .sl 10 [eD e, eD e2]]) _ = Out.ret (.agg [_, _, _, _, _, _, _, _, _, .sl 10 (dsAll [e, e2])]) _
              rw [dsAll2]; rfl
            · rintro z q T k' a b y d2 o rfl
              refine WP.asrt (by kernel_rfl) ?_
              exact WP.leaf rfl
          · rintro z q T k' a b y d2 o rfl
            exact WP.leaf rfl
    · rintro z q T k' a b y d2 o rfl
      exact WP.leaf rfl
theorem line1 (hX : LibX X) {n : Nat} (h : ∀ m, m < n → LineA X 120 2 m) : LineB X 119 1 n := fun d hd => by
  cases n with
  | zero => exact Rdr.out
  | succ n =>
    intro E T t r hA hne
    refine DoesQ.of Tryz.func119 (by kernel_rfl) ?_
    rw [bind_ret (pLine (n + 1) 1 d)] at hne ⊢
    refine Rdr.use (B := B1) (r_rowA hX 120 d 1 (by omega) (by omega) n fun m hm => h m hm d hd) hA hne ?_ ?_
    · intro e T t r hA hne
      exact WP.leaf ⟨T, t, r, rfl, hA, rfl⟩
    · rintro z q T k' a b y d2 o rfl
      exact WP.leaf rfl
theorem line0 (hX : LibX X) {n : Nat} (h : ∀ m, m < n → LineB X 119 1 m) : LineA X 95 0 n := fun d hd => by
  cases n with
  | zero => exact Rdr.out
  | succ n =>
    intro E T t r hA hne
    refine DoesQ.of Tryz.func95 (by kernel_rfl) ?_
    rw [bind_ret (pLine (n + 1) 0 d)] at hne ⊢
    refine Rdr.use (B := B3) (r_rowB hX 119 d 0 (by omega) (by omega) n fun m hm => h m hm d hd) hA hne ?_ ?_
    · intro e T t r hA hne
      exact WP.leaf ⟨T, t, r, rfl, hA, rfl⟩
    · rintro z q T k' a b y d2 o rfl
      exact WP.leaf rfl
abbrev PrimA (X : Given) (n : Nat) : Prop := ∀ d, d ≤ 64 → Rdr X 204 [.box base 0] B1 d d (pPrim n d) roE po1
theorem unary_step (hX : LibX X) {n : Nat} (h : ∀ m, m < n → UnaryA X m) (hp : ∀ m, m < n → PrimA X m) : UnaryA X n := fun d hd => by
  cases n with
  | zero => exact Rdr.out
  | succ n =>
    intro E T t r hA hne
    refine DoesQ.of Tryz.func188 (by kernel_rfl) ?_
    refine WP.use1 (r_isA unSigns (by simp [unSigns]) E T t d) ?_
    have e1 : runG (pUnary (n + 1) d) (t :: r) = runG (match isAny t unSigns with | true => (match decide (64 ≤ d) with | true => .err 141 | false => .next ((pUnary n (d + 1)).bind fun e => .ret (una t.a t.s e))) | false => pPrim n d) (t :: r) := rfl
    rw [e1] at hne ⊢
    cases hs : isAny t unSigns with
    | false =>
      refine WP.iteT rfl ?_
      rw [hs] at hne
      simp only at hne ⊢
      rw [bind_ret (pPrim n d)] at hne ⊢
      refine Rdr.use (B := B1) (hp n (Nat.lt_succ_self n) d hd) hA hne ?_ ?_
      · intro e T t r hA hne
        exact WP.leaf ⟨T, t, r, rfl, hA, rfl⟩
      · rintro z q T k' a b y d2 o rfl
        exact WP.leaf rfl
    | true =>
      refine WP.iteF rfl ?_
      rw [hs] at hne
      by_cases h64 : 64 ≤ d
      · refine WP.use1 (r_enter_deep E T t r hA d h64 hd) ?_
        refine WP.leaf ?_
        simp only [decide_eq_true h64]
        exact ⟨t, r, T, t.k, t.a, _, t.s, _, rfl, by simpa using hA.n, rfl⟩
      · refine WP.use1 (r_enter E T t d (by omega)) ?_
        simp only [decide_eq_false h64] at hne ⊢
        refine Rdr.seq (B := B1) (p := .next (.ret (t.s, t.a))) (h := fun x => (pUnary n (d + 1)).bind fun e => .ret (una x.2 x.1 e)) (r_next hX E T t r hA (isAny_k hs) (d + 1)) hne ?_ ?_
        · intro x T t r hA hne
          have go : ∀ (z : Int), unOp x.1 = z → ∀ (k : Out → Id.T Out), (∀ e T t, WP X (k (roE e (rdT E T t (d + 1)))) fun o => o = .ret (.agg [cZ 4, cZ x.2, .str .empty, .str .empty, cZ 0, cZ 0, .bool false, .str .empty, cZ z, .sl 10 [eD e]]) [rd E.s E.F T t.k t.a ((t.a + t.s.size : Nat) : Int) t.s (IntKind.i64.wrap (((d + 1 : Nat) : Int) - 1))]) →
              (∀ (z q T k' a b : Int) (y : ByteArray) (d2 : Int), WP X (k (.pan (stopV z q) [rd E.s E.F T k' a b y d2])) (po1 (stopV z q) (rd E.s E.F T k' a b y d2))) →
              WP X (.call 188 [.box base 0] [rdT E T t (d + 1)] k) (Post E d roE po1 (runG ((pUnary n (d + 1)).bind fun e => .ret (una x.2 x.1 e)) (t :: r))) := fun z hz k hk hpk => by
            refine Rdr.use (B := B1) (h n (Nat.lt_succ_self n) (d + 1) (by omega)) hA hne ?_ ?_
            · intro e T t r hA hne
              refine WP.mono (hk e T t) ?_
              rintro o rfl
              refine ⟨T, t, r, rfl, hA, ?_⟩
              show _ = Out.ret (.agg [_, _, _, _, _, _, _, _, cZ (unOp x.1), .sl 10 (dsAll [e])]) _
              rw [dsAll1, hz, show (((d + 1 : Nat) : Int) - 1) = (d : Int) by omega, wrapI (by omega) (by omega)]; rfl
            · rintro z q T k' a b y d2 o rfl
              exact hpk z q T k' a b y d2
          by_cases h1 : x.1 = mkB [45]
          · refine WP.iteT (decide_eq_true h1) ?_
            refine go 15 (by unfold unOp; rw [if_pos h1]) _ ?_ ?_
            · intro e T t; exact WP.leaf rfl
            · intro z q T k' a b y d2; exact WP.leaf rfl
          refine WP.iteF (decide_eq_false h1) ?_
          by_cases h2 : x.1 = mkB [33]
          · refine WP.iteT (decide_eq_true h2) ?_
            refine go 16 (by unfold unOp; rw [if_neg h1, if_pos h2]) _ ?_ ?_
            · intro e T t; exact WP.leaf rfl
            · intro z q T k' a b y d2; exact WP.leaf rfl
          · refine WP.iteF (decide_eq_false h2) ?_
            refine go 17 (by unfold unOp; rw [if_neg h1, if_neg h2]) _ ?_ ?_
            · intro e T t; exact WP.leaf rfl
            · intro z q T k' a b y d2; exact WP.leaf rfl
        · rintro z q T k' a b y d2 o rfl
          exact WP.leaf rfl
end Go.Proofs.YtaddhpeainliiaaGreatDoor.Id
/-! ## PaPrim -/
namespace Go.Proofs.YtaddhpeainliiaaGreatDoor.Id
open Go
set_option linter.unusedVariables false
set_option linter.unusedSimpArgs false
set_option maxHeartbeats 1000000
set_option maxRecDepth 100000
variable {X : Given}
/-! ### numbers and texts -/
theorem tok_num {l : List UInt8} (h : tok l = (2, l.length, 0)) : numOk l = true ∧ l.all isD = true ∧ l ≠ [] := by
  cases l with
  | nil => cases h
  | cons c r =>
    change tokC c r = _ at h
    unfold tokC at h
    split at h
    · split at h
      · cases h
      · split at h <;> (have := congrArg (fun x : Nat × Nat × Nat => x.1) h; cases this)
    · split at h
      · split at h
        · rename_i h3
          have hn : ((c :: r).takeWhile isD).length = (c :: r).length := congrArg (fun x : Nat × Nat × Nat => x.2.1) h
          have ht := tw_take isD (c :: r)
          rw [hn, List.take_length] at ht
          simp only [Bool.and_eq_true] at h3
          rw [hn, List.take_length] at h3
          refine ⟨h3.1, ?_, by simp⟩
          rw [ht]; exact tw_all isD (c :: r)
        · cases h
      · split at h
        · split at h
          · cases h
          · have := congrArg (fun x : Nat × Nat × Nat => x.1) h; cases this
        · split at h
          · cases h
          · have := congrArg (fun x : Nat × Nat × Nat => x.1) h; cases this
theorem tok_txt {l : List UInt8} (h : tok l = (3, l.length, 0)) : ∃ c r t, l = c :: r ∧ c.toNat = 34 ∧ quo r = some (t, l.length) := by
  cases l with
  | nil => cases h
  | cons c r =>
    change tokC c r = _ at h
    unfold tokC at h
    split at h
    · split at h
      · cases h
      · split at h <;> (have := congrArg (fun x : Nat × Nat × Nat => x.1) h; cases this)
    · split at h
      · split at h
        · have := congrArg (fun x : Nat × Nat × Nat => x.1) h; cases this
        · cases h
      · split at h
        · rename_i h3
          split at h
          · cases h
          · rename_i t n hq
            have hn : n = (c :: r).length := congrArg (fun x : Nat × Nat × Nat => x.2.1) h
            exact ⟨c, r, t, rfl, h3, by rw [hq, hn]⟩
        · split at h
          · cases h
          · have := congrArg (fun x : Nat × Nat × Nat => x.1) h; cases this
theorem just_of {s : ByteArray} {k : Nat} (h : tok (L s) = (k, s.size, 0)) : just (L s) k = true := by
  have hne : L s ≠ [] := fun e => by
    have h1 := L_length s
    rw [e] at h h1
    have h2 := congrArg (fun x : Nat × Nat × Nat => x.2.2) h
    cases h2
  unfold just
  rw [h, L_length, decide_eq_true hne]
  simp
theorem lnumber (hX : LibX X) (s : ByteArray) (hs : s.size ≤ 1048576) (h : tok (L s) = (2, s.size, 0)) : Does X 219 [vS s] [] (.ret (.tuple [vI (numZ s), vI 0]) []) := by
  obtain ⟨h1, h2, h3⟩ := tok_num (l := L s) (by rw [L_length]; exact h)
  obtain ⟨v, hw, hv⟩ := lwhole hX s hs h2 h3
  refine DoesQ.eq (DoesQ.of Tryz.func219 (by kernel_rfl) ?_)
  refine WP.use1 (ljust hX s hs 2) ?_
  rw [just_of h]
  refine WP.iteF rfl ?_
  refine WP.use1 hw ?_
  refine WP.leaf ?_
  rw [hv h1]
  show _ = Out.ret (.tuple [vI (numR (L s)).1, vI 0]) []
  unfold numR
  rw [if_pos h1]
theorem ltext (s : ByteArray) (hs : s.size ≤ 1048576) (h : tok (L s) = (3, s.size, 0)) : Does X 93 [vS s] [] (.ret (.tuple [vS (txtZ s), vI 0]) []) := by
  obtain ⟨c, r, t, hl, hc, hq⟩ := tok_txt (l := L s) (by rw [L_length]; exact h)
  have hlq := lquoted (X := X) s hs
  rw [hl] at hlq
  simp only [if_pos hc] at hlq
  rw [hq] at hlq
  have hz : (L s).length = s.size := L_length s
  refine DoesQ.eq (DoesQ.of Tryz.func93 (by kernel_rfl) ?_)
  refine WP.use1 hlq ?_
  have hne : (L s).length ≠ 0 := by rw [hl]; simp
  refine WP.iteF (decide_eq_false (by dsimp only; omega)) ?_
  refine WP.iteF (by rw [hz]; exact (by simp : (!decide ((s.size : Int) = (s.size : Int))) = false)) ?_
  refine WP.leaf ?_
  show _ = Out.ret (.tuple [vS (txtZ s), vI 0]) []
  unfold txtZ
  rw [hl]
  simp only [if_pos hc]
  rw [hq]
  simp only
  rw [if_pos (by rw [hl]; rfl)]
abbrev ArgsA (X : Given) (n : Nat) : Prop := ∀ d, d ≤ 64 → Rdr X 205 [.box base 0] B1 d d (pArgs n d) (fun l c => .ret (.d (.sl 10 (dsAll l))) [c]) po1
theorem At.sz {E : Env} {T : Nat} {t : Tk} {r : List Tk} (h : At E T t r) : t.s.size ≤ 65536 := by have := h.b; have := E.hs; omega
theorem prim_step (hX : LibX X) {n : Nat} (he : ∀ m, m < n → LineA X 95 0 m) (ha : ∀ m, m < n → ArgsA X m) : PrimA X n := fun d hd => by
  cases n with
  | zero => exact Rdr.out
  | succ n =>
    intro E T t r hA hne
    have hsz := hA.sz
    refine DoesQ.of Tryz.func204 (by kernel_rfl) ?_
    have e1 : runG (pPrim (n + 1) d) (t :: r) = runG (match decide (t.k = 2) with
      | true => .next (.ret (.mk 1 t.a b0 b0 ⟨1, numZ t.s, false, b0⟩ 0 []))
      | false => match decide (t.k = 3) with
        | true => .next (.ret (.mk 1 t.a b0 b0 ⟨3, 0, false, txtZ t.s⟩ 0 []))
        | false => match isAny t [mkB [116, 114, 117, 101], mkB [102, 97, 108, 115, 101]] with
          | true => .next (.ret (.mk 1 t.a b0 b0 ⟨2, 0, decide (t.s = mkB [116, 114, 117, 101]), b0⟩ 0 []))
          | false => match isT t (mkB [40]) with
            | true => (gOpen (mkB [40]) d).bind fun _ => (pLine n 0 (d + 1)).bind fun e => (gMust (mkB [41])).bind fun _ => .ret e
            | false => (gOf 1).bind fun w => (gIs (mkB [46])).bind fun
              | true => .next ((gOf 1).bind fun w2 => pName n d t.a w.1 w2.1)
              | false => pName n d t.a b0 w.1) (t :: r) := rfl
    rw [e1] at hne ⊢
    by_cases h2 : t.k = 2
    · simp only [decide_eq_true h2] at hne ⊢
      refine WP.iteT (by simp [h2]) ?_
      refine Rdr.next hX hA (by omega) hne ?_ ?_
      · intro T' t' r' hA' hne'
        refine WP.use1 (lnumber hX t.s (by omega) (by rw [hA.g (by omega), h2])) ?_
        exact WP.leaf ⟨T', t', r', rfl, hA', rfl⟩
      · intro e q T k' a b y d2; exact WP.leaf rfl
    simp only [decide_eq_false h2] at hne ⊢
    refine WP.iteF (by simp; omega) ?_
    by_cases h3 : t.k = 3
    · simp only [decide_eq_true h3] at hne ⊢
      refine WP.iteT (by simp [h3]) ?_
      refine Rdr.next hX hA (by omega) hne ?_ ?_
      · intro T' t' r' hA' hne'
        refine WP.use1 (ltext t.s (by omega) (by rw [hA.g (by omega), h3])) ?_
        exact WP.leaf ⟨T', t', r', rfl, hA', rfl⟩
      · intro e q T k' a b y d2; exact WP.leaf rfl
    simp only [decide_eq_false h3] at hne ⊢
    refine WP.iteF (by simp; omega) ?_
    refine WP.use1 (r_isA [mkB [116, 114, 117, 101], mkB [102, 97, 108, 115, 101]] (by simp) E T t d) ?_
    cases h4 : isAny t [mkB [116, 114, 117, 101], mkB [102, 97, 108, 115, 101]] with
    | true =>
      rw [h4] at hne
      refine WP.iteT rfl ?_
      refine Rdr.next hX hA (isAny_k h4) hne ?_ ?_
      · intro T' t' r' hA' hne'
        exact WP.leaf ⟨T', t', r', rfl, hA', rfl⟩
      · intro e q T k' a b y d2; exact WP.leaf rfl
    | false =>
      rw [h4] at hne
      refine WP.iteF rfl ?_
      refine WP.use1 (r_is1 (mkB [40]) E T t d) ?_
      cases h5 : isT t (mkB [40]) with
      | true =>
        rw [h5] at hne
        refine WP.iteT rfl ?_
        refine Rdr.opened hX hd hA hne ?_ ?_
        · intro h64 T t r hA hne
          refine Rdr.use (B := B1) (he n (Nat.lt_succ_self n) (d + 1) (by omega)) hA hne ?_ ?_
          · intro e T t r hA hne
            refine Rdr.use (B := B1) (r_close hX (mkB [41]) d hd) hA hne ?_ ?_
            · intro _ T t r hA hne
              exact WP.leaf ⟨T, t, r, rfl, hA, rfl⟩
            · rintro z q T k' a b y d2 o rfl; exact WP.leaf rfl
          · rintro z q T k' a b y d2 o rfl; exact WP.leaf rfl
        · intro z q T k' a b y d2; exact WP.leaf rfl
      | false =>
        rw [h5] at hne
        refine WP.iteF rfl ?_
        refine Rdr.use (B := B1) (r_of hX 1 (by omega) d) hA hne ?_ ?_
        · intro w T t1 r hA hne
          refine WP.use1 (r_is1 (mkB [46]) E T t1 d) ?_
          have e2 : runG ((gIs (mkB [46])).bind fun
              | true => .next ((gOf 1).bind fun w2 => pName n d t.a w.1 w2.1)
              | false => pName n d t.a b0 w.1) (t1 :: r) = runG (match isT t1 (mkB [46]) with
              | true => .next ((gOf 1).bind fun w2 => pName n d t.a w.1 w2.1)
              | false => pName n d t.a b0 w.1) (t1 :: r) := rfl
          have e2' : runG ((fun w : ByteArray × Nat => (gIs (mkB [46])).bind fun
              | true => .next ((gOf 1).bind fun w2 => pName n d t.a w.1 w2.1)
              | false => pName n d t.a b0 w.1) w) (t1 :: r) = _ := e2
          rw [e2'] at hne ⊢
          cases h6 : isT t1 (mkB [46]) with
          | true =>
            rw [h6] at hne
            refine WP.iteT rfl ?_
            refine Rdr.next hX hA (isT_k h6) hne ?_ ?_
            · intro T t2 r hA hne
              refine Rdr.use (B := B1) (r_of hX 1 (by omega) d) hA hne ?_ ?_
              · intro w2 T t3 r hA hne
                cases n with
                | zero => exact absurd rfl hne
                | succ n =>
                  refine WP.use1 (r_is1 (mkB [40]) E T t3 d) ?_
                  have e3 : runG (pName (n + 1) d t.a w.1 w2.1) (t3 :: r) = runG (match isT t3 (mkB [40]) with
                    | true => (pArgs n d).bind fun l => .ret (.mk 3 t.a w.1 w2.1 val0 0 l)
                    | false => .ret (.mk 2 t.a w.1 w2.1 val0 0 [])) (t3 :: r) := rfl
                  rw [e3] at hne ⊢
                  cases h7 : isT t3 (mkB [40]) with
                  | true =>
                    rw [h7] at hne
                    refine WP.iteT rfl ?_
                    refine Rdr.use (B := B1) (ha n (by omega) d hd) hA hne ?_ ?_
                    · intro l T t r hA hne
                      exact WP.leaf ⟨T, t, r, rfl, hA, rfl⟩
                    · rintro z q T k' a b y d2 o rfl; exact WP.leaf rfl
                  | false =>
                    refine WP.iteF rfl ?_
                    exact WP.leaf ⟨T, t3, r, rfl, hA, rfl⟩
              · rintro z q T k' a b y d2 o rfl; exact WP.leaf rfl
            · intro z q T k' a b y d2; exact WP.leaf rfl
          | false =>
            rw [h6] at hne
            refine WP.iteF rfl ?_
            cases n with
            | zero => exact absurd rfl hne
            | succ n =>
              refine WP.use1 (r_is1 (mkB [40]) E T t1 d) ?_
              have e3 : runG (pName (n + 1) d t.a b0 w.1) (t1 :: r) = runG (match isT t1 (mkB [40]) with
                | true => (pArgs n d).bind fun l => .ret (.mk 3 t.a b0 w.1 val0 0 l)
                | false => .ret (.mk 2 t.a b0 w.1 val0 0 [])) (t1 :: r) := rfl
              have e3' : runG (match false with
                | true => .next ((gOf 1).bind fun w2 => pName (n + 1) d t.a w.1 w2.1)
                | false => pName (n + 1) d t.a b0 w.1) (t1 :: r) = _ := e3
              rw [e3'] at hne ⊢
              cases h7 : isT t1 (mkB [40]) with
              | true =>
                rw [h7] at hne
                refine WP.iteT rfl ?_
                refine Rdr.use (B := B1) (ha n (by omega) d hd) hA hne ?_ ?_
                · intro l T t r hA hne
                  exact WP.leaf ⟨T, t, r, rfl, hA, rfl⟩
                · rintro z q T k' a b y d2 o rfl; exact WP.leaf rfl
              | false =>
                refine WP.iteF rfl ?_
                exact WP.leaf ⟨T, t1, r, rfl, hA, rfl⟩
        · rintro z q T k' a b y d2 o rfl; exact WP.leaf rfl
abbrev roL (l : List TExpr) (c : List V) : Out := .ret (.d (.sl 10 (dsAll l))) [c]
/-- the arguments of a call, from behind the bracket on -/
theorem args_loop (hX : LibX X) (d : Nat) (hd : d ≤ 64) : ∀ (n : Nat), (∀ m, m < n → LineA X 95 0 m) →
    ∀ (E : Env) (K : Ex → St → Id.T Out) (d' : Nat) (hE : ∀ T t r l, At E T t r → isT t (mkB [41]) = true → runG (.next (.ret l)) (t :: r) ≠ .out → WP X (K (.exit 0) ⟨[(0, .box base 0), (3, .own (19, here) 10 (dsAll l))], [(base, rdT E T t d)]⟩) (Post E d' roL po1 (runG (.next (.ret l)) (t :: r))))
      (hP : ∀ (e q T k a b : Int) (y : ByteArray) (d2 : Int) (σ : St), getB σ.b base = some (rd E.s E.F T k a b y d2) → WP X (K (.pan (stopV e q)) σ) (po1 (stopV e q) (rd E.s E.F T k a b y d2)))
      (T : Nat) (t : Tk) (r : List Tk) (l : List TExpr), At E T t r → n + l.length ≤ 1000000000 → runG (pArgl n d l) (t :: r) ≠ .out → ∀ σ : St, getT σ.t 0 = .box base 0 → WkV σ (.own (19, here) 10 (dsAll l)) (getT σ.t 3) → getB σ.b base = some (rdT E T t d) →
      WP X (.loop (lp Tryz.f205 0) σ K) (Post E d' roL po1 (runG (pArgl n d l) (t :: r)))
  | 0, _, E, K, d', hE, hP, T, t, r, l, hA, hl, hne, σ, _, _, _ => absurd rfl hne
  | n + 1, he, E, K, d', hE, hP, T, t, r, l, hA, hl, hne, σ, g0, g3, gb => by
    refine WP.round ⟨[(0, .box base 0), (3, .own (19, here) 10 (dsAll l))], [(base, rdT E T t d)]⟩ ⟨⟨.inl g0.symm, g3, trivial⟩, ⟨WkB.box gb, trivial⟩⟩ ?_
    have e1 : runG (pArgl (n + 1) d l) (t :: r) = runG (match isT t (mkB [41]) with
      | true => .next (.ret l)
      | false => (gSep l.length).bind fun _ => (pLine n 0 d).bind fun e => pArgl n d (l ++ [e])) (t :: r) := rfl
    rw [e1] at hne ⊢
    refine WP.use1 (r_is1 (mkB [41]) E T t d) ?_
    cases h1 : isT t (mkB [41]) with
    | true =>
      rw [h1] at hne
      refine WP.iteF rfl ?_
      exact WP.leaf ⟨⟨[(0, .box base 0), (3, .own (19, here) 10 (dsAll l))], [(base, rdT E T t d)]⟩, ⟨⟨.inl rfl, .inl rfl, trivial⟩, ⟨WkB.box rfl, trivial⟩⟩, hE T t r l hA h1 hne⟩
    | false =>
      rw [h1] at hne
      refine WP.iteT rfl ?_
      by_cases h0 : 0 < l.length
      · refine WP.iteT (decide_eq_true (by rw [dsAll_len]; omega)) ?_
        simp only [gSep_pos h0] at hne ⊢
        refine Rdr.useL (B := B1) (p := gMust (mkB [44])) (h := fun _ => (pLine n 0 d).bind fun e => pArgl n d (l ++ [e])) (r_must hX (mkB [44]) d) hA hne ?_ ?_
        · intro _ T t r hA hne
          refine Rdr.useL (B := B1) (he n (Nat.lt_succ_self n) d hd) hA hne ?_ ?_
          · intro e T t r hA hne
            refine WP.asrt (show ((dsAll l).length + 1) * 120 ≤ 140737488355328 by rw [dsAll_len]; omega) ?_
            refine WP.leaf (args_loop hX d hd n (fun m hm => he m (by omega)) E K d' hE hP T t r (l ++ [e]) hA (by rw [List.length_append]; simp; omega) hne _ rfl (.inl ?_) rfl)
            rw [dsAll_app, dsAll1]; rfl
          · rintro z q T k' a b y d2 o rfl
            exact WP.leaf (hP _ _ _ _ _ _ _ _ _ rfl)
        · rintro z q T k' a b y d2 o rfl
          exact WP.leaf (hP _ _ _ _ _ _ _ _ _ rfl)
      · refine WP.iteF (decide_eq_false (by rw [dsAll_len]; omega)) ?_
        simp only [gSep_zero h0] at hne ⊢
        refine Rdr.useL (B := B1) (p := pLine n 0 d) (h := fun e => pArgl n d (l ++ [e])) (he n (Nat.lt_succ_self n) d hd) hA hne ?_ ?_
        · intro e T t r hA hne
          refine WP.asrt (show ((dsAll l).length + 1) * 120 ≤ 140737488355328 by rw [dsAll_len]; omega) ?_
          refine WP.leaf (args_loop hX d hd n (fun m hm => he m (by omega)) E K d' hE hP T t r (l ++ [e]) hA (by rw [List.length_append]; simp; omega) hne _ rfl (.inl ?_) rfl)
          rw [dsAll_app, dsAll1]; rfl
        · rintro z q T k' a b y d2 o rfl
          exact WP.leaf (hP _ _ _ _ _ _ _ _ _ rfl)
theorem args_step (hX : LibX X) {n : Nat} (hn : n ≤ 1000000000) (he : ∀ m, m < n → LineA X 95 0 m) : ArgsA X n := fun d hd => by
  cases n with
  | zero => exact Rdr.out
  | succ n =>
    intro E T t r hA hne
    refine DoesQ.of Tryz.func205 (by kernel_rfl) ?_
    have e1 : pArgs (n + 1) d = (gOpen (mkB [40]) d).bind fun _ => pArgl n (d + 1) [] := rfl
    rw [e1] at hne ⊢
    refine Rdr.opened hX hd hA hne ?_ ?_
    · intro h64 T t r hA hne
      refine args_loop hX (d + 1) (by omega) n (fun m hm => he m (by omega)) E _ d ?_ ?_ T t r [] hA (by simp; omega) hne _ rfl (.inr (.inr ⟨(19, here), 10, 10, rfl, rfl, rfl, rfl⟩)) rfl
      · intro T t r l hA h1 hne
        have e2 : runG (.next (.ret l)) (t :: r) = runG ((gMust (mkB [41])).bind fun _ => .ret l) (t :: r) := by
          show _ = runG ((match isT t (mkB [41]) with | true => .next (.ret t.a) | false => .err 140 : Gr Nat).bind fun _ => .ret l) (t :: r)
          rw [h1]; rfl
        rw [e2] at hne ⊢
        refine Rdr.use (B := B1) (r_close hX (mkB [41]) d hd) hA hne ?_ ?_
        · intro _ T t r hA hne
          exact WP.leaf ⟨T, t, r, rfl, hA, rfl⟩
        · rintro z q T k' a b y d2 o rfl; exact WP.leaf rfl
      · intro z q T k a b y d2 σ gb
        exact WP.finPan1 gb
    · intro z q T k' a b y d2; exact WP.leaf rfl
/-- all lines of the grammar of expressions -/
theorem exprs (hX : LibX X) : ∀ (n : Nat), n ≤ 1000000000 → LineA X 95 0 n ∧ LineB X 119 1 n ∧ LineA X 120 2 n ∧ LineA X 160 3 n ∧ LineB X 187 4 n ∧
    LineA X 188 5 n ∧ UnaryA X n ∧ PrimA X n ∧ ArgsA X n := by
  intro n
  induction n using Nat.strongRecOn with
  | _ n ih =>
    intro hn
    have ih' := fun m (hm : m < n) => ih m hm (by omega)
    refine ⟨line0 hX fun m hm => (ih' m hm).2.1, line1 hX fun m hm => (ih' m hm).2.2.1, line2 hX fun m hm => (ih' m hm).2.2.2.1, line3 hX fun m hm => (ih' m hm).2.2.2.2.1, line4 hX fun m hm => (ih' m hm).2.2.2.2.2.1,
      line5 fun m hm => (ih' m hm).2.2.2.2.2.2.1, unary_step hX (fun m hm => (ih' m hm).2.2.2.2.2.2.1) fun m hm => (ih' m hm).2.2.2.2.2.2.2.1, prim_step hX (fun m hm => (ih' m hm).1) fun m hm => (ih' m hm).2.2.2.2.2.2.2.2, args_step hX hn fun m hm => (ih' m hm).1⟩
theorem r_expr (hX : LibX X) {n : Nat} (hn : n ≤ 1000000000) : LineA X 95 0 n := (exprs hX n hn).1
theorem r_args (hX : LibX X) {n : Nat} (hn : n ≤ 1000000000) : ArgsA X n := (exprs hX n hn).2.2.2.2.2.2.2.2
end Go.Proofs.YtaddhpeainliiaaGreatDoor.Id
/-! ## PaStmt -/
namespace Go.Proofs.YtaddhpeainliiaaGreatDoor.Id
open Go
set_option linter.unusedVariables false
set_option linter.unusedSimpArgs false
set_option maxHeartbeats 1000000
set_option maxRecDepth 100000
variable {X : Given}
def TStmt.k : TStmt → Int | .mk k _ _ _ _ _ _ => k
def TStmt.a : TStmt → Int | .mk _ a _ _ _ _ _ => a
def TStmt.nm : TStmt → ByteArray | .mk _ _ n _ _ _ _ => n
def TStmt.e : TStmt → TExpr | .mk _ _ _ e _ _ _ => e
def TStmt.body : TStmt → List TStmt | .mk _ _ _ _ b _ _ => b
def TStmt.els : TStmt → List TStmt | .mk _ _ _ _ _ l _ => l
def TStmt.he : TStmt → Bool | .mk _ _ _ _ _ _ h => h
mutual
def ssOf : TStmt → List D
  | .mk k a nm e body els he => [cZ k, cZ a, .str nm, cZ e.k, cZ e.a, .str e.of, .str e.nm, cZ e.v.t, cZ e.v.i, .bool e.v.b, .str e.v.s, cZ e.op, .sl 10 (dsAll e.kids), .sl 16 (ssAll body), .sl 16 (ssAll els), .bool he]
def ssAll : List TStmt → List (List D)
  | [] => []
  | x :: r => ssOf x :: ssAll r
end
/-- a statement's cells -/
abbrev sD (s : TStmt) : List D := [cZ s.k, cZ s.a, .str s.nm, cZ s.e.k, cZ s.e.a, .str s.e.of, .str s.e.nm, cZ s.e.v.t, cZ s.e.v.i, .bool s.e.v.b, .str s.e.v.s, cZ s.e.op, .sl 10 (dsAll s.e.kids), .sl 16 (ssAll s.body), .sl 16 (ssAll s.els), .bool s.he]
theorem ssOf_eq (s : TStmt) : ssOf s = sD s := by cases s; rfl
theorem ssAll_cons (x : TStmt) (r : List TStmt) : ssAll (x :: r) = sD x :: ssAll r := by rw [ssAll, ssOf_eq]
theorem ssAll1 (x : TStmt) : ssAll [x] = [sD x] := by rw [ssAll_cons]; rfl
theorem ssAll_app : ∀ (a b : List TStmt), ssAll (a ++ b) = ssAll a ++ ssAll b
  | [], b => rfl
  | x :: r, b => by rw [List.cons_append, ssAll, ssAll, ssAll_app r b]; rfl
theorem ssAll_len : ∀ (a : List TStmt), (ssAll a).length = a.length
  | [] => rfl
  | x :: r => by rw [ssAll, List.length_cons, List.length_cons, ssAll_len r]
/-- a statement's box while it is read -/
abbrev s0c (k a : Int) (nm : ByteArray) (ek ea : Int) (eof enm : ByteArray) : List V := [vI k, vI a, vS nm, vI ek, vI ea, vS eof, vS enm, vI 0, vI 0, vB false, vS .empty, vI 0, .d (.nil 10), .d (.nil 16), .d (.nil 16), vB false]
/-- a statement's box, with its expression -/
abbrev s1c (k a : Int) (nm : ByteArray) (e : TExpr) : List V := [vI k, vI a, vS nm, vI e.k, vI e.a, vS e.of, vS e.nm, vI e.v.t, vI e.v.i, vB e.v.b, vS e.v.s, vI e.op, .d (.sl 10 (dsAll e.kids)), .d (.nil 16), .d (.nil 16), vB false]
abbrev roS (s : TStmt) (c : List V) : Out := .ret (.agg (sD s)) [c]
abbrev roSs (l : List TStmt) (c : List V) : Out := .ret (.d (.sl 16 (ssAll l))) [c]
abbrev B4 (a : Int) (c : List V) : List (List V) := [c, s0c 0 a .empty 0 0 .empty .empty]
abbrev roN4 (a : Int) (x : Int × ByteArray × TExpr) (c : List V) : Out := .ret (.tuple []) [c, s1c x.1 a x.2.1 x.2.2]
abbrev po4 (a : Int) (v : V) (c : List V) (o : Out) : Prop := ∃ k nm ek ea eof enm, o = .pan v [c, s0c k a nm ek ea eof enm]
theorem r_named (hX : LibX X) {n : Nat} (hn : n ≤ 1000000000) (d a : Nat) (hd : d ≤ 64) : Rdr X 190 [.box base 0, .box (base + 1) 0] (B4 a) d d (pNamed n d) (roN4 a) (po4 a) := by
  intro E T t r hA hne
  refine DoesQ.of Tryz.func190 (by kernel_rfl) ?_
  unfold pNamed at hne ⊢
  refine Rdr.use (B := B1) (r_of hX 1 (by omega) d) hA hne ?_ ?_
  · intro w T t r hA hne
    refine WP.use1 (r_is1 (mkB [61]) E T t d) ?_
    rw [runG_is] at hne ⊢
    cases h1 : isT t (mkB [61]) with
    | true =>
      rw [h1] at hne
      refine WP.iteT rfl ?_
      refine Rdr.next hX hA (isT_k h1) hne ?_ ?_
      · intro T t r hA hne
        refine Rdr.use (B := B1) (r_expr hX hn d hd) hA hne ?_ ?_
        · intro e T t r hA hne
          exact WP.leaf ⟨T, t, r, rfl, hA, rfl⟩
        · rintro z q T k' a' b y d2 o rfl; exact WP.leaf ⟨_, _, _, _, _, _, rfl⟩
      · intro z q T k' a' b y d2; exact WP.leaf ⟨_, _, _, _, _, _, rfl⟩
    | false =>
      rw [h1] at hne
      refine WP.iteF rfl ?_
      refine WP.use1 (r_is1 (mkB [46]) E T t d) ?_
      change runG ((gIs (mkB [46])).bind _) (t :: r) ≠ .out at hne
      rw [runG_is] at hne
      show WP X _ (Post E d (roN4 a) (po4 a) (runG ((gIs (mkB [46])).bind _) (t :: r)))
      rw [runG_is]
      cases h2 : isT t (mkB [46]) with
      | true =>
        rw [h2] at hne
        refine WP.iteT rfl ?_
        refine Rdr.next hX hA (isT_k h2) hne ?_ ?_
        · intro T t r hA hne
          refine Rdr.use (B := B1) (r_of hX 1 (by omega) d) hA hne ?_ ?_
          · intro w2 T t r hA hne
            refine Rdr.use (B := B1) (r_args hX hn d hd) hA hne ?_ ?_
            · intro l T t r hA hne
              exact WP.leaf ⟨T, t, r, rfl, hA, rfl⟩
            · rintro z q T k' a' b y d2 o rfl; exact WP.leaf ⟨_, _, _, _, _, _, rfl⟩
          · rintro z q T k' a' b y d2 o rfl; exact WP.leaf ⟨_, _, _, _, _, _, rfl⟩
        · intro z q T k' a' b y d2; exact WP.leaf ⟨_, _, _, _, _, _, rfl⟩
      | false =>
        rw [h2] at hne
        refine WP.iteF rfl ?_
        refine Rdr.use (B := B1) (r_args hX hn d hd) hA hne ?_ ?_
        · intro l T t r hA hne
          exact WP.leaf ⟨T, t, r, rfl, hA, rfl⟩
        · rintro z q T k' a' b y d2 o rfl; exact WP.leaf ⟨_, _, _, _, _, _, rfl⟩
  · rintro z q T k' a' b y d2 o rfl; exact WP.leaf ⟨_, _, _, _, _, _, rfl⟩
end Go.Proofs.YtaddhpeainliiaaGreatDoor.Id
/-! ## PaBlock -/
namespace Go.Proofs.YtaddhpeainliiaaGreatDoor.Id
open Go
set_option linter.unusedVariables false
set_option linter.unusedSimpArgs false
set_option maxHeartbeats 1000000
set_option maxRecDepth 100000
variable {X : Given}
abbrev BlockA (X : Given) (n : Nat) : Prop := ∀ d, d ≤ 64 → Rdr X 124 [.box base 0] B1 d d (pBlock n d) roSs po1
abbrev StmtA (X : Given) (n : Nat) : Prop := ∀ d, d ≤ 64 → Rdr X 162 [.box base 0] B1 d d (pStmt n d) roS po1
abbrev BranchA (X : Given) (n : Nat) : Prop := ∀ d, d ≤ 64 → Rdr X 189 [.box base 0] B1 d d (pBranch n d) roS po1
theorem block_loop (hX : LibX X) (d : Nat) (hd : d ≤ 64) : ∀ (n : Nat), (∀ m, m < n → StmtA X m) →
    ∀ (E : Env) (K : Ex → St → Id.T Out) (d' : Nat) (hE : ∀ T t r l, At E T t r → isT t (mkB [125]) = true → runG (.next (.ret l)) (t :: r) ≠ .out → WP X (K (.exit 0) ⟨[(0, .box base 0), (3, .own (14, here) 16 (ssAll l))], [(base, rdT E T t d)]⟩) (Post E d' roSs po1 (runG (.next (.ret l)) (t :: r))))
      (hP : ∀ (e q T k a b : Int) (y : ByteArray) (d2 : Int) (σ : St), getB σ.b base = some (rd E.s E.F T k a b y d2) → WP X (K (.pan (stopV e q)) σ) (po1 (stopV e q) (rd E.s E.F T k a b y d2)))
      (T : Nat) (t : Tk) (r : List Tk) (l : List TStmt), At E T t r → n + l.length ≤ 100000000 → runG (pStmts n d l) (t :: r) ≠ .out → ∀ σ : St, getT σ.t 0 = .box base 0 → WkV σ (.own (14, here) 16 (ssAll l)) (getT σ.t 3) → getB σ.b base = some (rdT E T t d) →
      WP X (.loop (lp Tryz.f124 0) σ K) (Post E d' roSs po1 (runG (pStmts n d l) (t :: r)))
  | 0, _, E, K, d', hE, hP, T, t, r, l, hA, hl, hne, σ, _, _, _ => absurd rfl hne
  | n + 1, hs, E, K, d', hE, hP, T, t, r, l, hA, hl, hne, σ, g0, g3, gb => by
    refine WP.round ⟨[(0, .box base 0), (3, .own (14, here) 16 (ssAll l))], [(base, rdT E T t d)]⟩ ⟨⟨.inl g0.symm, g3, trivial⟩, ⟨WkB.box gb, trivial⟩⟩ ?_
    have e1 : runG (pStmts (n + 1) d l) (t :: r) = runG (match isT t (mkB [125]) with
      | true => .next (.ret l)
      | false => (pStmt n d).bind fun s => pStmts n d (l ++ [s])) (t :: r) := rfl
    rw [e1] at hne ⊢
    refine WP.use1 (r_is1 (mkB [125]) E T t d) ?_
    cases h1 : isT t (mkB [125]) with
    | true =>
      rw [h1] at hne
      refine WP.iteF rfl ?_
      exact WP.leaf ⟨⟨[(0, .box base 0), (3, .own (14, here) 16 (ssAll l))], [(base, rdT E T t d)]⟩, ⟨⟨.inl rfl, .inl rfl, trivial⟩, ⟨WkB.box rfl, trivial⟩⟩, hE T t r l hA h1 hne⟩
    | false =>
      rw [h1] at hne
      refine WP.iteT rfl ?_
      refine Rdr.useL (B := B1) (p := pStmt n d) (h := fun e => pStmts n d (l ++ [e])) (hs n (Nat.lt_succ_self n) d hd) hA hne ?_ ?_
      · intro e T t r hA hne
        refine WP.asrt (show ((ssAll l).length + 1) * 208 ≤ 140737488355328 by rw [ssAll_len]; omega) ?_
        refine WP.leaf (block_loop hX d hd n (fun m hm => hs m (by omega)) E K d' hE hP T t r (l ++ [e]) hA (by rw [List.length_append]; simp; omega) hne _ rfl (.inl ?_) rfl)
        rw [ssAll_app, ssAll1]; rfl
      · rintro z q T k' a b y d2 o rfl
        exact WP.leaf (hP _ _ _ _ _ _ _ _ _ rfl)
theorem block_step (hX : LibX X) {n : Nat} (hn : n ≤ 100000000) (hs : ∀ m, m < n → StmtA X m) : BlockA X n := fun d hd => by
  cases n with
  | zero => exact Rdr.out
  | succ n =>
    intro E T t r hA hne
    refine DoesQ.of Tryz.func124 (by kernel_rfl) ?_
    have e1 : pBlock (n + 1) d = (gOpen (mkB [123]) d).bind fun _ => pStmts n (d + 1) [] := rfl
    rw [e1] at hne ⊢
    refine Rdr.opened hX hd hA hne ?_ ?_
    · intro h64 T t r hA hne
      refine block_loop hX (d + 1) (by omega) n (fun m hm => hs m (by omega)) E _ d ?_ ?_ T t r [] hA (by simp; omega) hne _ rfl (.inr (.inr ⟨(14, here), 16, 16, rfl, rfl, rfl, rfl⟩)) rfl
      · intro T t r l hA h1 hne
        have e2 : runG (.next (.ret l)) (t :: r) = runG ((gMust (mkB [125])).bind fun _ => .ret l) (t :: r) := by
          show _ = runG ((match isT t (mkB [125]) with | true => .next (.ret t.a) | false => .err 140 : Gr Nat).bind fun _ => .ret l) (t :: r)
          rw [h1]; rfl
        rw [e2] at hne ⊢
        refine Rdr.use (B := B1) (r_close hX (mkB [125]) d hd) hA hne ?_ ?_
        · intro _ T t r hA hne
          exact WP.leaf ⟨T, t, r, rfl, hA, rfl⟩
        · rintro z q T k' a b y d2 o rfl; exact WP.leaf rfl
      · intro z q T k a b y d2 σ gb
        exact WP.finPan1 gb
    · intro z q T k' a b y d2; exact WP.leaf rfl
theorem stmt_step (hX : LibX X) {n : Nat} (hn : n ≤ 100000000) (hb : ∀ m, m < n → BlockA X m) (hr : ∀ m, m < n → BranchA X m) : StmtA X n := fun d hd => by
  cases n with
  | zero => exact Rdr.out
  | succ n =>
    intro E T t r hA hne
    refine DoesQ.of Tryz.func162 (by kernel_rfl) ?_
    have e1 : runG (pStmt (n + 1) d) (t :: r) = runG (match isT t kVar with
      | true => .next ((gOf 1).bind fun w => (gMust (mkB [61])).bind fun _ => (pLine n 0 d).bind fun e => gSemi (.mk 1 t.a w.1 e [] [] false))
      | false => match isT t kIf with
        | true => pBranch n d
        | false => match isT t kWhile with
          | true => .next ((pLine n 0 d).bind fun e => (pBlock n d).bind fun b => .ret (.mk 4 t.a b0 e b [] false))
          | false => match isT t kReturn with
            | true => .next ((gIs (mkB [59])).bind fun
              | true => gSemi (.mk 5 t.a b0 expr0 [] [] false)
              | false => (pLine n 0 d).bind fun e => gSemi (.mk 5 t.a b0 e [] [] false))
            | false => match isT t kPrint with
              | true => .next ((pLine n 0 d).bind fun e => gSemi (.mk 6 t.a b0 e [] [] false))
              | false => (pNamed n d).bind fun x => gSemi (.mk x.1 t.a x.2.1 x.2.2 [] [] false)) (t :: r) := rfl
    rw [e1] at hne ⊢
    have hx := r_expr hX (n := n) (by omega) (X := X) d hd
    refine WP.use1 (r_is1 kVar E T t d) ?_
    cases h1 : isT t kVar with
    | true =>
      rw [h1] at hne
      refine WP.iteT rfl ?_
      refine Rdr.next hX hA (isT_k h1) hne ?_ ?_
      · intro T t' r hA hne
        refine Rdr.use (B := B1) (r_of hX 1 (by omega) d) hA hne ?_ ?_
        · intro w T t' r hA hne
          refine Rdr.use (B := B1) (r_must hX (mkB [61]) d) hA hne ?_ ?_
          · intro _ T t' r hA hne
            refine Rdr.use (B := B1) hx hA hne ?_ ?_
            · intro e T t' r hA hne
              refine Rdr.use (B := B1) (r_must hX (mkB [59]) d) hA hne ?_ ?_
              · intro _ T t' r hA hne
                exact WP.leaf ⟨T, t', r, rfl, hA, rfl⟩
              · rintro z q T k' a b y d2 o rfl; exact WP.leaf rfl
            · rintro z q T k' a b y d2 o rfl; exact WP.leaf rfl
          · rintro z q T k' a b y d2 o rfl; exact WP.leaf rfl
        · rintro z q T k' a b y d2 o rfl; exact WP.leaf rfl
      · intro z q T k' a b y d2; exact WP.leaf rfl
    | false =>
    rw [h1] at hne
    refine WP.iteF rfl ?_
    refine WP.use1 (r_is1 kIf E T t d) ?_
    cases h2 : isT t kIf with
    | true =>
      rw [h2] at hne
      refine WP.iteT rfl ?_
      simp only at hne ⊢
      rw [bind_ret (pBranch n d)] at hne ⊢
      refine Rdr.use (B := B1) (hr n (Nat.lt_succ_self n) d hd) hA hne ?_ ?_
      · intro s T t' r hA hne
        exact WP.leaf ⟨T, t', r, rfl, hA, rfl⟩
      · rintro z q T k' a b y d2 o rfl; exact WP.leaf rfl
    | false =>
    rw [h2] at hne
    refine WP.iteF rfl ?_
    refine WP.use1 (r_is1 kWhile E T t d) ?_
    cases h3 : isT t kWhile with
    | true =>
      rw [h3] at hne
      refine WP.iteT rfl ?_
      refine Rdr.next hX hA (isT_k h3) hne ?_ ?_
      · intro T t' r hA hne
        refine Rdr.use (B := B1) hx hA hne ?_ ?_
        · intro e T t' r hA hne
          refine Rdr.use (B := B1) (hb n (Nat.lt_succ_self n) d hd) hA hne ?_ ?_
          · intro l T t' r hA hne
            exact WP.leaf ⟨T, t', r, rfl, hA, rfl⟩
          · rintro z q T k' a b y d2 o rfl; exact WP.leaf rfl
        · rintro z q T k' a b y d2 o rfl; exact WP.leaf rfl
      · intro z q T k' a b y d2; exact WP.leaf rfl
    | false =>
    rw [h3] at hne
    refine WP.iteF rfl ?_
    refine WP.use1 (r_is1 kReturn E T t d) ?_
    cases h4 : isT t kReturn with
    | true =>
      rw [h4] at hne
      refine WP.iteT rfl ?_
      refine Rdr.next hX hA (isT_k h4) hne ?_ ?_
      · intro T t' r hA hne
        refine WP.use1 (r_is1 (mkB [59]) E T t' d) ?_
        rw [runG_is] at hne ⊢
        cases h5 : isT t' (mkB [59]) with
        | true =>
          rw [h5] at hne
          refine WP.iteF rfl ?_
          refine Rdr.use (B := B1) (p := gMust (mkB [59])) (h := fun _ => .ret (TStmt.mk 5 t.a b0 expr0 [] [] false)) (r_must hX (mkB [59]) d) hA hne ?_ ?_
          · intro _ T t' r hA hne
            exact WP.leaf ⟨T, t', r, rfl, hA, rfl⟩
          · rintro z q T k' a b y d2 o rfl; exact WP.leaf rfl
        | false =>
          rw [h5] at hne
          refine WP.iteT rfl ?_
          refine Rdr.use (B := B1) hx hA hne ?_ ?_
          · intro e T t' r hA hne
            refine Rdr.use (B := B1) (r_must hX (mkB [59]) d) hA hne ?_ ?_
            · intro _ T t' r hA hne
              exact WP.leaf ⟨T, t', r, rfl, hA, rfl⟩
            · rintro z q T k' a b y d2 o rfl; exact WP.leaf rfl
          · rintro z q T k' a b y d2 o rfl; exact WP.leaf rfl
      · intro z q T k' a b y d2; exact WP.leaf rfl
    | false =>
    rw [h4] at hne
    refine WP.iteF rfl ?_
    refine WP.use1 (r_is1 kPrint E T t d) ?_
    cases h5 : isT t kPrint with
    | true =>
      rw [h5] at hne
      refine WP.iteT rfl ?_
      refine Rdr.next hX hA (isT_k h5) hne ?_ ?_
      · intro T t' r hA hne
        refine Rdr.use (B := B1) hx hA hne ?_ ?_
        · intro e T t' r hA hne
          refine Rdr.use (B := B1) (r_must hX (mkB [59]) d) hA hne ?_ ?_
          · intro _ T t' r hA hne
            exact WP.leaf ⟨T, t', r, rfl, hA, rfl⟩
          · rintro z q T k' a b y d2 o rfl; exact WP.leaf rfl
        · rintro z q T k' a b y d2 o rfl; exact WP.leaf rfl
      · intro z q T k' a b y d2; exact WP.leaf rfl
    | false =>
    rw [h5] at hne
    refine WP.iteF rfl ?_
    refine Rdr.use (B := B4 t.a) (r_named hX (by omega) d t.a hd) hA hne ?_ ?_
    · intro x T t' r hA hne
      refine Rdr.use (B := B1) (r_must hX (mkB [59]) d) hA hne ?_ ?_
      · intro _ T t' r hA hne
        exact WP.leaf ⟨T, t', r, rfl, hA, rfl⟩
      · rintro z q T k' a b y d2 o rfl; exact WP.leaf rfl
    · rintro z q T k' a b y d2 o ⟨_, _, _, _, _, _, rfl⟩; exact WP.leaf rfl
theorem branch_step (hX : LibX X) {n : Nat} (hn : n ≤ 100000000) (hb : ∀ m, m < n → BlockA X m) (hr : ∀ m, m < n → BranchA X m) : BranchA X n := fun d hd => by
  cases n with
  | zero => exact Rdr.out
  | succ n =>
    intro E T t r hA hne
    refine DoesQ.of Tryz.func189 (by kernel_rfl) ?_
    have e1 : pBranch (n + 1) d = (gMust kIf).bind fun a => (pLine n 0 d).bind fun e => (pBlock n d).bind fun b => (gIs kElse).bind fun
      | false => .ret (.mk 3 a b0 e b [] false)
      | true => .next ((gIs kIf).bind fun
        | true => (pBranch n d).bind fun s => .ret (.mk 3 a b0 e b [s] true)
        | false => (pBlock n d).bind fun l => .ret (.mk 3 a b0 e b l true)) := rfl
    rw [e1] at hne ⊢
    refine Rdr.use (B := B1) (r_must hX kIf d) hA hne ?_ ?_
    · intro a T t r hA hne
      refine Rdr.use (B := B1) (r_expr hX (by omega) d hd) hA hne ?_ ?_
      · intro e T t r hA hne
        refine Rdr.use (B := B1) (hb n (Nat.lt_succ_self n) d hd) hA hne ?_ ?_
        · intro b T t r hA hne
          refine WP.use1 (r_is1 kElse E T t d) ?_
          rw [runG_is] at hne ⊢
          cases h1 : isT t kElse with
          | false =>
            refine WP.iteT rfl ?_
            exact WP.leaf ⟨T, t, r, rfl, hA, rfl⟩
          | true =>
            rw [h1] at hne
            refine WP.iteF rfl ?_
            refine Rdr.next hX hA (isT_k h1) hne ?_ ?_
            · intro T t r hA hne
              refine WP.use1 (r_is1 kIf E T t d) ?_
              rw [runG_is] at hne ⊢
              cases h2 : isT t kIf with
              | true =>
                rw [h2] at hne
                refine WP.iteT rfl ?_
                refine Rdr.use (B := B1) (hr n (Nat.lt_succ_self n) d hd) hA hne ?_ ?_
                · intro s T t r hA hne
                  refine WP.leaf ⟨T, t, r, rfl, hA, ?_⟩
                  show Out.ret (.agg [_, _, _, _, _, _, _, _, _, _, _, _, _, _, .sl 16 [sD s], _]) _ = Out.ret (.agg [_, _, _, _, _, _, _, _, _, _, _, _, _, _, .sl 16 (ssAll [s]), _]) _
                  rw [ssAll1]; rfl
                · rintro z q T k' a b y d2 o rfl; exact WP.leaf rfl
              | false =>
                rw [h2] at hne
                refine WP.iteF rfl ?_
                refine Rdr.use (B := B1) (hb n (Nat.lt_succ_self n) d hd) hA hne ?_ ?_
                · intro l T t r hA hne
                  exact WP.leaf ⟨T, t, r, rfl, hA, rfl⟩
                · rintro z q T k' a b y d2 o rfl; exact WP.leaf rfl
            · intro z q T k' a b y d2; exact WP.leaf rfl
        · rintro z q T k' a b y d2 o rfl; exact WP.leaf rfl
      · rintro z q T k' a b y d2 o rfl; exact WP.leaf rfl
    · rintro z q T k' a b y d2 o rfl; exact WP.leaf rfl
theorem stmts (hX : LibX X) : ∀ (n : Nat), n ≤ 100000000 → BlockA X n ∧ StmtA X n ∧ BranchA X n := by
  intro n
  induction n using Nat.strongRecOn with
  | _ n ih =>
    intro hn
    have ih' := fun m (hm : m < n) => ih m hm (by omega)
    exact ⟨block_step hX hn fun m hm => (ih' m hm).2.1, stmt_step hX hn (fun m hm => (ih' m hm).1) fun m hm => (ih' m hm).2.2, branch_step hX hn (fun m hm => (ih' m hm).1) fun m hm => (ih' m hm).2.2⟩
theorem r_block (hX : LibX X) {n : Nat} (hn : n ≤ 100000000) : BlockA X n := (stmts hX n hn).1
end Go.Proofs.YtaddhpeainliiaaGreatDoor.Id
/-! ## PaFunc -/
namespace Go.Proofs.YtaddhpeainliiaaGreatDoor.Id
open Go
set_option linter.unusedVariables false
set_option linter.unusedSimpArgs false
set_option maxHeartbeats 1000000
set_option maxRecDepth 100000
variable {X : Given}
abbrev pD (p : TParam) : List D := [.str p.nm, cZ p.t]
abbrev psD (l : List TParam) : List (List D) := l.map fun p => pD p
/-- a function's cells -/
abbrev fD (f : TFunc) : List D := [.str f.nm, .bool f.ex, cZ f.a, .sl 2 (psD f.ps), cZ f.res, .sl 16 (ssAll f.body)]
abbrev roF (f : TFunc) (c : List V) : Out := .ret (.agg (fD f)) [c]
/-- a function's box while its parameters are read -/
abbrev fc (nm : ByteArray) (ex : Bool) (a : Int) (l : List TParam) : List V := [vS nm, vB ex, vI a, .own (5, 3) 2 (psD l), vI 0, .d (.nil 16)]
abbrev f0V : List V := [vS .empty, vB false, vI 0, .d (.nil 2), vI 0, .d (.nil 16)]
theorem params_loop (hX : LibX X) (d : Nat) (hd : d ≤ 64) (nm : ByteArray) (ex : Bool) (a : Int) (h : List TParam → Gr TFunc) : ∀ (n : Nat)
    (E : Env) (K : Ex → St → Id.T Out) (d' : Nat) (hE : ∀ T t r l, At E T t r → isT t (mkB [41]) = true → runG (.next (h l)) (t :: r) ≠ .out → WP X (K (.exit 0) ⟨[(0, .box base 0), (4, .box 4 0), (5, .box 5 0)], [(base, rdT E T t d), (4, f0V), (5, fc nm ex a l)]⟩) (Post E d' roF po1 (runG (.next (h l)) (t :: r))))
      (hP : ∀ (e q T k a b : Int) (y : ByteArray) (d2 : Int) (σ : St), getB σ.b base = some (rd E.s E.F T k a b y d2) → WP X (K (.pan (stopV e q)) σ) (po1 (stopV e q) (rd E.s E.F T k a b y d2)))
      (T : Nat) (t : Tk) (r : List Tk) (l : List TParam), At E T t r → n + l.length ≤ 100000000 → runG ((pParams n l).bind h) (t :: r) ≠ .out → ∀ σ : St, getT σ.t 0 = .box base 0 → getT σ.t 4 = .box 4 0 → getT σ.t 5 = .box 5 0 → getB σ.b base = some (rdT E T t d) → getB σ.b 4 = some f0V →
      (∃ us, getB σ.b 5 = some us ∧ WkVs σ (fc nm ex a l) us) →
      WP X (.loop (lp Tryz.f96 0) σ K) (Post E d' roF po1 (runG ((pParams n l).bind h) (t :: r)))
  | 0, E, K, d', hE, hP, T, t, r, l, hA, hl, hne, σ, _, _, _, _, _, _ => absurd rfl hne
  | n + 1, E, K, d', hE, hP, T, t, r, l, hA, hl, hne, σ, g0, g4, g5, gb, b4, b5 => by
    refine WP.round ⟨[(0, .box base 0), (4, .box 4 0), (5, .box 5 0)], [(base, rdT E T t d), (4, f0V), (5, fc nm ex a l)]⟩ ⟨⟨.inl g0.symm, .inl g4.symm, .inl g5.symm, trivial⟩, ⟨WkB.box gb, WkB.box b4, b5, trivial⟩⟩ ?_
    have e1 : runG ((pParams (n + 1) l).bind h) (t :: r) = runG (match isT t (mkB [41]) with
      | true => .next (h l)
      | false => (gSep l.length).bind fun _ => pParam.bind fun x => (pParams n (l ++ [x])).bind h) (t :: r) := by
      show runG ((match isT t (mkB [41]) with
        | true => .next (.ret l)
        | false => (gSep l.length).bind fun _ => pParam.bind fun x => pParams n (l ++ [x]) : Gr (List TParam)).bind h) (t :: r) = _
      cases isT t (mkB [41]) with
      | true => rfl
      | false => simp only [gr_assoc]
    rw [e1] at hne ⊢
    have go : ∀ (T : Nat) (t : Tk) (r : List Tk) (k : Out → Id.T (Ex × St)), At E T t r → runG (pParam.bind fun x => (pParams n (l ++ [x])).bind h) (t :: r) ≠ .out →
        (∀ w T t r, At E T t r → runG ((gMust (mkB [58])).bind fun _ => pType.bind fun ty => (pParams n (l ++ [⟨w.1, ty⟩])).bind h) (t :: r) ≠ .out → WP X (k (roW w (rdT E T t d))) (Round X (lp Tryz.f96 0) K (Post E d' roF po1 (runG ((gMust (mkB [58])).bind fun _ => pType.bind fun ty => (pParams n (l ++ [⟨w.1, ty⟩])).bind h) (t :: r))))) →
        (∀ (e q T k' a b : Int) (y : ByteArray) (d2 : Int), WP X (k (.pan (stopV e q) [rd E.s E.F T k' a b y d2])) (Round X (lp Tryz.f96 0) K (po1 (stopV e q) (rd E.s E.F T k' a b y d2)))) →
        WP X (.call 92 [.box base 0, vI (1 : Nat)] [rdT E T t d] k) (Round X (lp Tryz.f96 0) K (Post E d' roF po1 (runG (pParam.bind fun x => (pParams n (l ++ [x])).bind h) (t :: r)))) := fun T t r k hA hne hok hpan => by
      have e2 : (pParam.bind fun x => (pParams n (l ++ [x])).bind h) = (gOf 1).bind fun w => (gMust (mkB [58])).bind fun _ => pType.bind fun ty => (pParams n (l ++ [⟨w.1, ty⟩])).bind h := by
        unfold pParam; simp only [gr_assoc]; rfl
      rw [e2] at hne ⊢
      refine Rdr.useL (B := B1) (r_of hX 1 (by omega) d) hA hne ?_ ?_
      · intro w T t r hA hne; exact hok w T t r hA hne
      · rintro z q T k' a b y d2 o rfl; exact hpan z q T k' a b y d2
    refine WP.use1 (r_is1 (mkB [41]) E T t d) ?_
    cases h1 : isT t (mkB [41]) with
    | true =>
      rw [h1] at hne
      refine WP.iteF rfl ?_
      exact WP.leaf ⟨⟨[(0, .box base 0), (4, .box 4 0), (5, .box 5 0)], [(base, rdT E T t d), (4, f0V), (5, fc nm ex a l)]⟩, ⟨⟨.inl rfl, .inl rfl, .inl rfl, trivial⟩, ⟨WkB.box rfl, WkB.box rfl, WkB.box rfl, trivial⟩⟩, hE T t r l hA h1 hne⟩
    | false =>
      rw [h1] at hne
      refine WP.iteT rfl ?_
      have hlen : (psD l).length = l.length := by simp [psD]
      by_cases h0 : 0 < l.length
      · refine WP.iteT (decide_eq_true (by rw [hlen]; omega)) ?_
        simp only [gSep_pos h0] at hne ⊢
        refine Rdr.useL (B := B1) (p := gMust (mkB [44])) (h := fun _ => pParam.bind fun x => (pParams n (l ++ [x])).bind h) (r_must hX (mkB [44]) d) hA hne ?_ ?_
        · intro _ T t r hA hne
          refine go T t r _ hA hne ?_ ?_
          · intro w T t r hA hne
            refine Rdr.useL (B := B1) (r_must hX (mkB [58]) d) hA hne ?_ ?_
            · intro _ T t r hA hne
              refine WP.asrt (by kernel_rfl) ?_
              refine Rdr.useL (B := B1) (r_kind hX d) hA hne ?_ ?_
              · intro ty T t r hA hne
                refine WP.asrt (show ((psD l).length + 1) * 24 ≤ 140737488355328 by rw [hlen]; omega) ?_
                refine WP.asrt (by kernel_rfl) ?_
                refine WP.leaf ?_
                refine params_loop hX d hd nm ex a h n E K d' hE hP T t r (l ++ [⟨w.1, ty⟩]) hA (by rw [List.length_append]; simp; omega) hne _ ?_ ?_ ?_ ?_ ?_ ?_
                · rfl
                · rfl
                · rfl
                · rfl
                · rfl
                · refine ⟨_, rfl, ⟨.inl rfl, .inl rfl, .inl rfl, .inl ?_, .inl rfl, .inl rfl, trivial⟩⟩
                  rw [show psD (l ++ [⟨w.1, ty⟩]) = psD l ++ psD [⟨w.1, ty⟩] from List.map_append]; rfl
              · rintro z q T k' a b y d2 o rfl
                refine WP.asrt (by kernel_rfl) ?_
                exact WP.leaf (hP _ _ _ _ _ _ _ _ _ rfl)
            · rintro z q T k' a b y d2 o rfl
              exact WP.leaf (hP _ _ _ _ _ _ _ _ _ rfl)
          · intro z q T k' a b y d2
            exact WP.leaf (hP _ _ _ _ _ _ _ _ _ rfl)
        · rintro z q T k' a b y d2 o rfl
          exact WP.leaf (hP _ _ _ _ _ _ _ _ _ rfl)
      · refine WP.iteF (decide_eq_false (by rw [hlen]; omega)) ?_
        simp only [gSep_zero h0] at hne ⊢
        refine go T t r _ hA hne ?_ ?_
        · intro w T t r hA hne
          refine Rdr.useL (B := B1) (r_must hX (mkB [58]) d) hA hne ?_ ?_
          · intro _ T t r hA hne
            refine WP.asrt (by kernel_rfl) ?_
            refine Rdr.useL (B := B1) (r_kind hX d) hA hne ?_ ?_
            · intro ty T t r hA hne
              refine WP.asrt (show ((psD l).length + 1) * 24 ≤ 140737488355328 by rw [hlen]; omega) ?_
              refine WP.asrt (by kernel_rfl) ?_
              refine WP.leaf ?_
              refine params_loop hX d hd nm ex a h n E K d' hE hP T t r (l ++ [⟨w.1, ty⟩]) hA (by rw [List.length_append]; simp; omega) hne _ ?_ ?_ ?_ ?_ ?_ ?_
              · rfl
              · rfl
              · rfl
              · rfl
              · rfl
              · refine ⟨_, rfl, ⟨.inl rfl, .inl rfl, .inl rfl, .inl ?_, .inl rfl, .inl rfl, trivial⟩⟩
                rw [show psD (l ++ [⟨w.1, ty⟩]) = psD l ++ psD [⟨w.1, ty⟩] from List.map_append]; rfl
            · rintro z q T k' a b y d2 o rfl
              refine WP.asrt (by kernel_rfl) ?_
              exact WP.leaf (hP _ _ _ _ _ _ _ _ _ rfl)
          · rintro z q T k' a b y d2 o rfl
            exact WP.leaf (hP _ _ _ _ _ _ _ _ _ rfl)
        · intro z q T k' a b y d2
          exact WP.leaf (hP _ _ _ _ _ _ _ _ _ rfl)
theorem must_next {α : Type} {t : Tk} {r : List Tk} {x : ByteArray} (h1 : isT t x = true) (g : Gr α) : runG (.next g) (t :: r) = runG ((gMust x).bind fun _ => g) (t :: r) := by
  show _ = runG ((match isT t x with | true => .next (.ret t.a) | false => .err 140 : Gr Nat).bind fun _ => g) (t :: r)
  rw [h1]; rfl
theorem r_function (hX : LibX X) {n : Nat} (hn : n ≤ 100000000) (ex : Bool) : Rdr X 96 [.box base 0, vB ex] B1 0 0 (pFunc n ex) roF po1 := by
  intro E T t r hA hne
  refine DoesQ.of Tryz.func96 (by kernel_rfl) ?_
  have e1 : pFunc n ex = (gMust kFunc).bind fun _ => (gOf 1).bind fun w => (gOpen (mkB [40]) 0).bind fun _ => (pParams n []).bind fun ps => (gIs (mkB [58])).bind fun
    | true => .next (pType.bind fun t => (pBlock n 0).bind fun b => .ret ⟨w.1, ex, w.2, ps, t, b⟩)
    | false => (pBlock n 0).bind fun b => .ret ⟨w.1, ex, w.2, ps, 0, b⟩ := rfl
  rw [e1] at hne ⊢
  refine Rdr.use (B := B1) (r_must hX kFunc 0) hA hne ?_ ?_
  · intro _ T t r hA hne
    refine Rdr.use (B := B1) (r_of hX 1 (by omega) 0) hA hne ?_ ?_
    · intro w T t r hA hne
      refine Rdr.opened hX (by omega) hA hne ?_ ?_
      · intro h64 T t r hA hne
        refine params_loop hX 1 (by omega) w.1 ex w.2 _ n E _ 0 ?_ ?_ T t r [] hA (by simp; omega) hne _ rfl rfl rfl rfl rfl ?_
        rotate_left
        rotate_left
        · exact ⟨_, rfl, ⟨.inl rfl, .inl rfl, .inl rfl, .inr (.inr ⟨(5, 3), 2, 2, rfl, rfl, rfl, rfl⟩), .inl rfl, .inl rfl, trivial⟩⟩
        · intro T t r l hA h1 hne
          rw [must_next h1] at hne ⊢
          refine Rdr.use (B := B1) (r_close hX (mkB [41]) 0 (by omega)) hA hne ?_ ?_
          · intro _ T t r hA hne
            refine WP.use1 (r_is1 (mkB [58]) E T t 0) ?_
            rw [runG_is] at hne ⊢
            cases h2 : isT t (mkB [58]) with
            | true =>
              rw [h2] at hne
              refine WP.iteT rfl ?_
              refine Rdr.next hX hA (isT_k h2) hne ?_ ?_
              · intro T t r hA hne
                refine Rdr.use (B := B1) (r_kind hX 0) hA hne ?_ ?_
                · intro ty T t r hA hne
                  refine Rdr.use (B := B1) (r_block hX hn 0 (by omega)) hA hne ?_ ?_
                  · intro b T t r hA hne
                    exact WP.leaf ⟨T, t, r, rfl, hA, rfl⟩
                  · rintro z q T k' a b y d2 o rfl; exact WP.leaf rfl
                · rintro z q T k' a b y d2 o rfl; exact WP.leaf rfl
              · intro z q T k' a b y d2; exact WP.leaf rfl
            | false =>
              rw [h2] at hne
              refine WP.iteF rfl ?_
              refine Rdr.use (B := B1) (r_block hX hn 0 (by omega)) hA hne ?_ ?_
              · intro b T t r hA hne
                exact WP.leaf ⟨T, t, r, rfl, hA, rfl⟩
              · rintro z q T k' a b y d2 o rfl; exact WP.leaf rfl
          · rintro z q T k' a b y d2 o rfl; exact WP.leaf rfl
        · intro z q T k a b y d2 σ gb
          exact WP.finPan1 gb
      · intro z q T k' a b y d2; exact WP.leaf rfl
    · rintro z q T k' a b y d2 o rfl; exact WP.leaf rfl
  · rintro z q T k' a b y d2 o rfl; exact WP.leaf rfl
end Go.Proofs.YtaddhpeainliiaaGreatDoor.Id
/-! ## PaMod -/
namespace Go.Proofs.YtaddhpeainliiaaGreatDoor.Id
open Go
set_option linter.unusedVariables false
set_option linter.unusedSimpArgs false
set_option maxHeartbeats 1000000
set_option maxRecDepth 100000
variable {X : Given}
abbrev iD (x : TIncl) : List D := [.str x.p, .str x.nm, cZ x.a]
abbrev cD (c : TCons) : List D := [.str c.nm, .bool c.ex, cZ c.a, cZ c.e.k, cZ c.e.a, .str c.e.of, .str c.e.nm, cZ c.e.v.t, cZ c.e.v.i, .bool c.e.v.b, .str c.e.v.s, cZ c.e.op, .sl 10 (dsAll c.e.kids)]
abbrev isD' (l : List TIncl) : List (List D) := l.map fun x => iD x
abbrev csD (l : List TCons) : List (List D) := l.map fun x => cD x
abbrev fsD (l : List TFunc) : List (List D) := l.map fun x => fD x
/-- a module's box, named i -/
abbrev mcA (i : Nat) (m : TMod) : List V := [.own (i, 0) 3 (isD' m.is), .own (i, 1) 13 (csD m.cs), .own (i, 2) 6 (fsD m.fs)]
abbrev mc (m : TMod) : List V := mcA (base + 1) m
abbrev roM (m : TMod) (c : List V) : Out := .ret (.tuple []) [c, mc m]
/-- so long are a module's rows at most -/
def LenM (B : Nat) (m : TMod) : Prop := m.is.length ≤ B ∧ m.cs.length + m.fs.length ≤ B
abbrev poM (B : Nat) (v : V) (c : List V) (o : Out) : Prop := ∃ m, LenM B m ∧ o = .pan v [c, mc m]
theorem WP.finPanM {B : Nat} {fn : Func} {σ : St} {e q : Int} {s : ByteArray} {F T k a b : Int} {y : ByteArray} {d : Int} {m : TMod} (hm : LenM B m) (gb : getB σ.b base = some (rd s F T k a b y d)) (gm : getB σ.b (base + 1) = some (mc m)) : WP X (fin tt fn 2 (.pan (stopV e q), σ)) (poM B (stopV e q) (rd s F T k a b y d)) := by
  have h : outB σ 2 2 = some [rd s F T k a b y d, mc m] := by
    have e : getB σ.b (base + (2 - (1 + 1))) = some (rd s F T k a b y d) := gb
    have e1 : getB σ.b (base + (2 - (0 + 1))) = some (mc m) := gm
    simp only [outB]
    rw [e, e1]; rfl
  unfold fin
  rw [h]
  exact WP.leaf ⟨m, hm, rfl⟩
/-- a token of a kind is taken, ahead of the rest, in a loop -/
theorem Rdr.ofL {β : Type} (hX : LibX X) {n : Nat} (hn : n ≠ 0) {d d'' : Nat} {po' : V → List V → Out → Prop} {ro' : β → List V → Out} {h : ByteArray × Nat → Gr β} {c : Code} {K : Ex → St → Id.T Out} {k : Out → Id.T (Ex × St)} {E : Env} {T : Nat} {t : Tk} {r : List Tk} (hA : At E T t r) (hne : runG ((gOf n).bind h) (t :: r) ≠ .out)
    (hok : t.k = n → ∀ T' t' r', At E T' t' r' → runG (h (t.s, t.a)) (t' :: r') ≠ .out → WP X (k (roW (t.s, t.a) (rdT E T' t' d))) (Round X c K (Post E d'' ro' po' (runG (h (t.s, t.a)) (t' :: r')))))
    (hpan : ∀ (e q T k' a b : Int) (y : ByteArray) (d2 : Int), WP X (k (.pan (stopV e q) [rd E.s E.F T k' a b y d2])) (Round X c K (po' (stopV e q) (rd E.s E.F T k' a b y d2)))) :
    WP X (.call 92 [.box base 0, vI (n : Nat)] [rdT E T t d] k) (Round X c K (Post E d'' ro' po' (runG ((gOf n).bind h) (t :: r)))) := by
  have h1 : runG (gOf n) (t :: r) ≠ .out := fun e => hne (by rw [runG_bind, e]; rfl)
  refine WP.use (r_of hX n hn d E T t r hA h1) fun o ho => ?_
  rw [runG_bind] at hne ⊢
  rcases Post.pan (h := fun x r => runG (h x) r) (d' := d'') (ro' := ro') (po' := po') ho hne with ⟨x, T', t', r', hr, hA', rfl⟩ | ⟨e, q, T', k', a, b, y, d2, rfl, hk⟩
  · rw [hr] at hne ⊢
    have e : runG (gOf n) (t :: r) = runG (match decide (t.k = n) with | true => .next (.ret (t.s, t.a)) | false => .err 140) (t :: r) := rfl
    rw [e] at hr
    by_cases hk : t.k = n
    · simp only [decide_eq_true hk] at hr
      cases r with
      | nil => cases hr
      | cons u r =>
        have hx : (t.s, t.a) = x := congrArg (fun z : Rs (ByteArray × Nat) => match z with | .ok y _ => y | _ => (t.s, t.a)) hr
        subst hx
        exact hok hk T' t' r' hA' hne
    · simp only [decide_eq_false hk] at hr; cases hr
  · exact (hpan e q T' k' a b y d2).mono (Round.mono hk)
theorem incls_loop (hX : LibX X) {B : Nat} (hB : B ≤ 200000000) (c0 : List TCons) (f0 : List TFunc) (hcf : c0.length + f0.length ≤ B) (h : List TIncl → Gr TMod) : ∀ (n : Nat)
    (E : Env) (K : Ex → St → Id.T Out) (hE : ∀ T t r l, At E T t r → l.length ≤ B → runG (h l) (t :: r) ≠ .out → WP X (K (.exit 0) ⟨[(0, .box base 0), (1, .box (base + 1) 0)], [(base, rdT E T t 0), (base + 1, mc ⟨l, c0, f0⟩)]⟩) (Post E 0 roM (poM B) (runG (h l) (t :: r))))
      (hP : ∀ (e q T k a b : Int) (y : ByteArray) (d2 : Int) (m : TMod) (σ : St), LenM B m → getB σ.b base = some (rd E.s E.F T k a b y d2) → getB σ.b (base + 1) = some (mc m) → WP X (K (.pan (stopV e q)) σ) (poM B (stopV e q) (rd E.s E.F T k a b y d2)))
      (T : Nat) (t : Tk) (r : List Tk) (l : List TIncl), At E T t r → n + l.length ≤ B → runG ((pIncls n l).bind h) (t :: r) ≠ .out → ∀ σ : St, getT σ.t 0 = .box base 0 → getT σ.t 1 = .box (base + 1) 0 → getB σ.b base = some (rdT E T t 0) →
      (∃ us, getB σ.b (base + 1) = some us ∧ WkVs σ (mc ⟨l, c0, f0⟩) us) →
      WP X (.loop (lp Tryz.f59 0) σ K) (Post E 0 roM (poM B) (runG ((pIncls n l).bind h) (t :: r)))
  | 0, E, K, hE, hP, T, t, r, l, hA, hl, hne, σ, _, _, _, _ => absurd rfl hne
  | n + 1, E, K, hE, hP, T, t, r, l, hA, hl, hne, σ, g0, g1, gb, gm => by
    have hm : LenM B ⟨l, c0, f0⟩ := ⟨by show l.length ≤ B; omega, hcf⟩
    refine WP.round ⟨[(0, .box base 0), (1, .box (base + 1) 0)], [(base, rdT E T t 0), (base + 1, mc ⟨l, c0, f0⟩)]⟩ ⟨⟨.inl g0.symm, .inl g1.symm, trivial⟩, ⟨WkB.box gb, gm, trivial⟩⟩ ?_
    have e1 : runG ((pIncls (n + 1) l).bind h) (t :: r) = runG (match isT t kInclude with
      | true => (gMust kInclude).bind fun a => (gOf 3).bind fun q => (gMust kAs).bind fun _ => (gOf 1).bind fun w => (gMust (mkB [59])).bind fun _ => (pIncls n (l ++ [⟨txtZ q.1, w.1, a⟩])).bind h
      | false => h l) (t :: r) := by
      show runG ((match isT t kInclude with
        | true => pIncl.bind fun x => pIncls n (l ++ [x])
        | false => .ret l : Gr (List TIncl)).bind h) (t :: r) = _
      cases isT t kInclude with
      | true => simp only [pIncl, gr_assoc]; rfl
      | false => rfl
    rw [e1] at hne ⊢
    refine WP.use1 (r_is1 kInclude E T t 0) ?_
    cases h1 : isT t kInclude with
    | false =>
      rw [h1] at hne
      refine WP.iteF rfl ?_
      exact WP.leaf ⟨⟨[(0, .box base 0), (1, .box (base + 1) 0)], [(base, rdT E T t 0), (base + 1, mc ⟨l, c0, f0⟩)]⟩, ⟨⟨.inl rfl, .inl rfl, trivial⟩, ⟨WkB.box rfl, WkB.box rfl, trivial⟩⟩, hE T t r l hA (by omega) hne⟩
    | true =>
      rw [h1] at hne
      refine WP.iteT rfl ?_
      refine Rdr.useL (B := B1) (r_must hX kInclude 0) hA hne ?_ ?_
      · intro a T t r hA hne
        refine Rdr.ofL hX (n := 3) (by omega) hA hne ?_ ?_
        · intro hk T2 t2 r2 hA2 hne
          have hsz := hA.sz
          refine WP.use1 (ltext t.s (by omega) (by rw [hA.g (by omega), hk])) ?_
          refine Rdr.useL (B := B1) (r_must hX kAs 0) hA2 hne ?_ ?_
          · intro _ T3 t3 r3 hA3 hne
            refine Rdr.useL (B := B1) (r_of hX 1 (by omega) 0) hA3 hne ?_ ?_
            · intro w T4 t4 r4 hA4 hne
              refine Rdr.useL (B := B1) (r_must hX (mkB [59]) 0) hA4 hne ?_ ?_
              · intro _ T5 t5 r5 hA5 hne
                refine WP.asrt (show ((isD' l).length + 1) * 40 ≤ 140737488355328 by simp only [List.length_map]; omega) ?_
                refine WP.leaf ?_
                refine incls_loop hX hB c0 f0 hcf h n E K hE hP T5 t5 r5 (l ++ [⟨txtZ t.s, w.1, a⟩]) hA5 (by rw [List.length_append]; simp; omega) hne _ ?_ ?_ ?_ ?_
                · rfl
                · rfl
                · rfl
                · refine ⟨_, rfl, ⟨.inl ?_, .inl rfl, .inl rfl, trivial⟩⟩
                  rw [show isD' (l ++ [⟨txtZ t.s, w.1, a⟩]) = isD' l ++ isD' [⟨txtZ t.s, w.1, a⟩] from List.map_append]; rfl
              · rintro z q T k' a b y d2 o rfl
                exact WP.leaf (hP _ _ _ _ _ _ _ _ _ _ hm rfl rfl)
            · rintro z q T k' a b y d2 o rfl
              exact WP.leaf (hP _ _ _ _ _ _ _ _ _ _ hm rfl rfl)
          · rintro z q T k' a b y d2 o rfl
            exact WP.leaf (hP _ _ _ _ _ _ _ _ _ _ hm rfl rfl)
        · intro z q T k' a b y d2
          exact WP.leaf (hP _ _ _ _ _ _ _ _ _ _ hm rfl rfl)
      · rintro z q T k' a b y d2 o rfl
        exact WP.leaf (hP _ _ _ _ _ _ _ _ _ _ hm rfl rfl)
/-- one declaration -/
theorem decls_loop (hX : LibX X) {B : Nat} (hB : B ≤ 200000000) : ∀ (n : Nat)
    (E : Env) (K : Ex → St → Id.T Out) (hE : ∀ T t r m, At E T t r → WP X (K (.exit 2) ⟨[(0, .box base 0), (1, .box (base + 1) 0)], [(base, rdT E T t 0), (base + 1, mc m)]⟩) (Post E 0 roM (poM B) (.ok m (t :: r))))
      (hP : ∀ (e q T k a b : Int) (y : ByteArray) (d2 : Int) (m : TMod) (σ : St), LenM B m → getB σ.b base = some (rd E.s E.F T k a b y d2) → getB σ.b (base + 1) = some (mc m) → WP X (K (.pan (stopV e q)) σ) (poM B (stopV e q) (rd E.s E.F T k a b y d2)))
      (T : Nat) (t : Tk) (r : List Tk) (m : TMod), At E T t r → n ≤ 100000000 ∧ m.is.length ≤ B ∧ n + m.cs.length + m.fs.length ≤ B → runG (pDecls n m) (t :: r) ≠ .out → ∀ σ : St, getT σ.t 0 = .box base 0 → getT σ.t 1 = .box (base + 1) 0 → getB σ.b base = some (rdT E T t 0) →
      getB σ.b (base + 1) = some (mc m) →
      WP X (.loop (lp Tryz.f59 1) σ K) (Post E 0 roM (poM B) (runG (pDecls n m) (t :: r)))
  | 0, E, K, hE, hP, T, t, r, l, hA, hl, hne, σ, _, _, _, _ => absurd rfl hne
  | n + 1, E, K, hE, hP, T, t, r, m, hA, hl, hne, σ, g0, g1, gb, gm => by
    have hm : LenM B m := ⟨by omega, by omega⟩
    refine WP.round ⟨[(0, .box base 0), (1, .box (base + 1) 0)], [(base, rdT E T t 0), (base + 1, mc m)]⟩ ⟨⟨.inl g0.symm, .inl g1.symm, trivial⟩, ⟨WkB.box gb, WkB.box gm, trivial⟩⟩ ?_
    have e1 : runG (pDecls (n + 1) m) (t :: r) = runG (match decide (t.k = 0) with
      | true => .ret m
      | false => match isT t kExport with
        | true => .next (pDecl (pDecls n) n true m)
        | false => pDecl (pDecls n) n false m) (t :: r) := rfl
    rw [e1] at hne ⊢
    by_cases h0 : t.k = 0
    · simp only [decide_eq_true h0] at hne ⊢
      refine WP.iteF (by simp [h0]) ?_
      exact WP.leaf ⟨⟨[(0, .box base 0), (1, .box (base + 1) 0)], [(base, rdT E T t 0), (base + 1, mc m)]⟩, ⟨⟨.inl rfl, .inl rfl, trivial⟩, ⟨WkB.box rfl, WkB.box rfl, trivial⟩⟩, hE T t r m hA⟩
    simp only [decide_eq_false h0] at hne ⊢
    refine WP.iteT (by simp; omega) ?_
    refine WP.use1 (r_is1 kExport E T t 0) ?_
    cases hx : isT t kExport with
    | true =>
      rw [hx] at hne
      refine WP.iteT rfl ?_
      refine Rdr.nextL hX hA (isT_k hx) hne ?_ ?_
      rotate_left
      · intro z q T k' a b y d2
        exact WP.leaf (hP _ _ _ _ _ _ _ _ _ _ hm rfl rfl)
      intro T t r hA hne
      unfold pDecl at hne ⊢
      rw [runG_look] at hne ⊢
      refine WP.use1 (r_is1 kConst E T t 0) ?_
      cases hc : isT t kConst with
      | true =>
        rw [hc] at hne
        refine WP.iteT rfl ?_
        simp only [pConst, gr_assoc] at hne ⊢
        rw [← must_next hc] at hne ⊢
        refine Rdr.nextL hX hA (isT_k hc) hne ?_ ?_
        · intro T t r hA hne
          refine Rdr.useL (B := B1) (r_of hX 1 (by omega) 0) hA hne ?_ ?_
          · intro w T t r hA hne
            refine Rdr.useL (B := B1) (r_must hX (mkB [61]) 0) hA hne ?_ ?_
            · intro _ T t r hA hne
              refine Rdr.useL (B := B1) (r_expr hX (by omega) 0 (by omega)) hA hne ?_ ?_
              · intro e T t r hA hne
                refine Rdr.useL (B := B1) (r_must hX (mkB [59]) 0) hA hne ?_ ?_
                · intro _ T t r hA hne
                  refine WP.asrt (by kernel_rfl) ?_
                  refine WP.asrt (show ((csD m.cs).length + 1) * 152 ≤ 140737488355328 by simp only [List.length_map]; omega) ?_
                  refine WP.asrt (by kernel_rfl) ?_
                  refine WP.leaf ?_
                  refine decls_loop hX hB n E K hE hP T t r { m with cs := m.cs ++ [⟨w.1, true, w.2, e⟩] } hA (by simp only [List.length_append, List.length_singleton]; omega) hne _ ?_ ?_ ?_ ?_
                  · rfl
                  · rfl
                  · rfl
                  · show some _ = some [_, V.own (base + 1, 1) 13 (csD (m.cs ++ [⟨w.1, true, w.2, e⟩])), _]
                    rw [show csD (m.cs ++ [⟨w.1, true, w.2, e⟩]) = csD m.cs ++ csD [⟨w.1, true, w.2, e⟩] from List.map_append]; rfl
                · rintro z q T k' a b y d2 o rfl
                  exact WP.leaf (hP _ _ _ _ _ _ _ _ _ _ hm rfl rfl)
              · rintro z q T k' a b y d2 o rfl
                exact WP.leaf (hP _ _ _ _ _ _ _ _ _ _ hm rfl rfl)
            · rintro z q T k' a b y d2 o rfl
              exact WP.leaf (hP _ _ _ _ _ _ _ _ _ _ hm rfl rfl)
          · rintro z q T k' a b y d2 o rfl
            exact WP.leaf (hP _ _ _ _ _ _ _ _ _ _ hm rfl rfl)
        · intro z q T k' a b y d2
          exact WP.leaf (hP _ _ _ _ _ _ _ _ _ _ hm rfl rfl)
      | false =>
        rw [hc] at hne
        refine WP.iteF rfl ?_
        refine WP.use1 (r_is1 kFunc E T t 0) ?_
        cases hf : isT t kFunc with
        | true =>
          rw [hf] at hne
          refine WP.iteT rfl ?_
          refine WP.asrt (by kernel_rfl) ?_
          refine Rdr.useL (B := B1) (r_function hX (by omega) true) hA hne ?_ ?_
          · intro f T t r hA hne
            refine WP.asrt (show ((fsD m.fs).length + 1) * 88 ≤ 140737488355328 by simp only [List.length_map]; omega) ?_
            refine WP.asrt (by kernel_rfl) ?_
            refine WP.leaf ?_
            refine decls_loop hX hB n E K hE hP T t r { m with fs := m.fs ++ [f] } hA (by simp only [List.length_append, List.length_singleton]; omega) hne _ ?_ ?_ ?_ ?_
            · rfl
            · rfl
            · rfl
            · show some _ = some [_, _, V.own (base + 1, 2) 6 (fsD (m.fs ++ [f]))]
              rw [show fsD (m.fs ++ [f]) = fsD m.fs ++ fsD [f] from List.map_append]; rfl
          · rintro z q T k' a b y d2 o rfl
            refine WP.asrt (by kernel_rfl) ?_
            exact WP.leaf (hP _ _ _ _ _ _ _ _ _ _ hm rfl rfl)
        | false =>
          refine WP.iteF rfl ?_
          refine WP.use1 (r_fail _ _ _ _ _ _ _ _ _) ?_
          refine WP.leaf ?_
          refine WP.mono (hP _ _ _ _ _ _ _ _ _ _ hm rfl rfl) ?_
          rintro o ho
          exact ⟨t, r, T, t.k, t.a, _, t.s, _, rfl, by simpa using hA.n, ho⟩
    | false =>
      rw [hx] at hne
      refine WP.iteF rfl ?_
      simp only at hne ⊢
      unfold pDecl at hne ⊢
      rw [runG_look] at hne ⊢
      refine WP.use1 (r_is1 kConst E T t 0) ?_
      cases hc : isT t kConst with
      | true =>
        rw [hc] at hne
        refine WP.iteT rfl ?_
        simp only [pConst, gr_assoc] at hne ⊢
        rw [← must_next hc] at hne ⊢
        refine Rdr.nextL hX hA (isT_k hc) hne ?_ ?_
        · intro T t r hA hne
          refine Rdr.useL (B := B1) (r_of hX 1 (by omega) 0) hA hne ?_ ?_
          · intro w T t r hA hne
            refine Rdr.useL (B := B1) (r_must hX (mkB [61]) 0) hA hne ?_ ?_
            · intro _ T t r hA hne
              refine Rdr.useL (B := B1) (r_expr hX (by omega) 0 (by omega)) hA hne ?_ ?_
              · intro e T t r hA hne
                refine Rdr.useL (B := B1) (r_must hX (mkB [59]) 0) hA hne ?_ ?_
                · intro _ T t r hA hne
                  refine WP.asrt (by kernel_rfl) ?_
                  refine WP.asrt (show ((csD m.cs).length + 1) * 152 ≤ 140737488355328 by simp only [List.length_map]; omega) ?_
                  refine WP.asrt (by kernel_rfl) ?_
                  refine WP.leaf ?_
                  refine decls_loop hX hB n E K hE hP T t r { m with cs := m.cs ++ [⟨w.1, false, w.2, e⟩] } hA (by simp only [List.length_append, List.length_singleton]; omega) hne _ ?_ ?_ ?_ ?_
                  · rfl
                  · rfl
                  · rfl
                  · show some _ = some [_, V.own (base + 1, 1) 13 (csD (m.cs ++ [⟨w.1, false, w.2, e⟩])), _]
                    rw [show csD (m.cs ++ [⟨w.1, false, w.2, e⟩]) = csD m.cs ++ csD [⟨w.1, false, w.2, e⟩] from List.map_append]; rfl
                · rintro z q T k' a b y d2 o rfl
                  exact WP.leaf (hP _ _ _ _ _ _ _ _ _ _ hm rfl rfl)
              · rintro z q T k' a b y d2 o rfl
                exact WP.leaf (hP _ _ _ _ _ _ _ _ _ _ hm rfl rfl)
            · rintro z q T k' a b y d2 o rfl
              exact WP.leaf (hP _ _ _ _ _ _ _ _ _ _ hm rfl rfl)
          · rintro z q T k' a b y d2 o rfl
            exact WP.leaf (hP _ _ _ _ _ _ _ _ _ _ hm rfl rfl)
        · intro z q T k' a b y d2
          exact WP.leaf (hP _ _ _ _ _ _ _ _ _ _ hm rfl rfl)
      | false =>
        rw [hc] at hne
        refine WP.iteF rfl ?_
        refine WP.use1 (r_is1 kFunc E T t 0) ?_
        cases hf : isT t kFunc with
        | true =>
          rw [hf] at hne
          refine WP.iteT rfl ?_
          refine WP.asrt (by kernel_rfl) ?_
          refine Rdr.useL (B := B1) (r_function hX (by omega) false) hA hne ?_ ?_
          · intro f T t r hA hne
            refine WP.asrt (show ((fsD m.fs).length + 1) * 88 ≤ 140737488355328 by simp only [List.length_map]; omega) ?_
            refine WP.asrt (by kernel_rfl) ?_
            refine WP.leaf ?_
            refine decls_loop hX hB n E K hE hP T t r { m with fs := m.fs ++ [f] } hA (by simp only [List.length_append, List.length_singleton]; omega) hne _ ?_ ?_ ?_ ?_
            · rfl
            · rfl
            · rfl
            · show some _ = some [_, _, V.own (base + 1, 2) 6 (fsD (m.fs ++ [f]))]
              rw [show fsD (m.fs ++ [f]) = fsD m.fs ++ fsD [f] from List.map_append]; rfl
          · rintro z q T k' a b y d2 o rfl
            refine WP.asrt (by kernel_rfl) ?_
            exact WP.leaf (hP _ _ _ _ _ _ _ _ _ _ hm rfl rfl)
        | false =>
          refine WP.iteF rfl ?_
          refine WP.use1 (r_fail _ _ _ _ _ _ _ _ _) ?_
          refine WP.leaf ?_
          refine WP.mono (hP _ _ _ _ _ _ _ _ _ _ hm rfl rfl) ?_
          rintro o ho
          exact ⟨t, r, T, t.k, t.a, _, t.s, _, rfl, by simpa using hA.n, ho⟩
abbrev m0V : List V := [.d (.nil 3), .d (.nil 13), .d (.nil 6)]
abbrev BMg (cs c : List V) : List (List V) := [c, cs]
abbrev BM (c : List V) : List (List V) := [c, m0V]
/-- a module, read behind what was read before -/
def pModFrom (n : Nat) (m0 : TMod) : Gr TMod := (pIncls n m0.is).bind fun l => pDecls n ⟨l, m0.cs, m0.fs⟩
theorem r_moduleG (hX : LibX X) {n B : Nat} (hB : B ≤ 200000000) (m0 : TMod) (hn : n ≤ 100000000 ∧ n + m0.is.length ≤ B ∧ n + m0.cs.length + m0.fs.length ≤ B) {cs0 : List V} (hcs : (cs0 = m0V ∧ m0 = ⟨[], [], []⟩) ∨ cs0 = mc m0) : Rdr X 59 [.box base 0, .box (base + 1) 0] (BMg cs0) 0 0 (pModFrom n m0) roM (poM B) := by
  intro E T t r hA hne
  unfold pModFrom at hne ⊢
  have hcf : m0.cs.length + m0.fs.length ≤ B := by omega
  rcases hcs with ⟨rfl, rfl⟩ | rfl
  · refine DoesQ.of Tryz.func59 (by kernel_rfl) ?_
    refine incls_loop hX hB _ _ hcf _ n E _ ?_ ?_ T t r [] hA (by simp at hn ⊢; omega) hne _ ?_ ?_ ?_ ?_
    rotate_left
    rotate_left
    · rfl
    · rfl
    · rfl
    · exact ⟨_, rfl, ⟨.inr (.inr ⟨(base + 1, 0), 3, 3, rfl, rfl, rfl, rfl⟩), .inr (.inr ⟨(base + 1, 1), 13, 13, rfl, rfl, rfl, rfl⟩), .inr (.inr ⟨(base + 1, 2), 6, 6, rfl, rfl, rfl, rfl⟩), trivial⟩⟩
    · intro T t r l hA hl hne
      refine decls_loop hX hB n E _ ?_ ?_ T t r ⟨l, [], []⟩ hA (by simp at hn ⊢; omega) hne _ ?_ ?_ ?_ ?_
      rotate_left
      rotate_left
      · rfl
      · rfl
      · rfl
      · rfl
      · intro T t r m hA
        exact WP.leaf ⟨T, t, r, rfl, hA, rfl⟩
      · intro z q T k a b y d2 m σ hm gb gm
        exact WP.finPanM hm gb gm
    · intro z q T k a b y d2 m σ hm gb gm
      exact WP.finPanM hm gb gm
  · refine DoesQ.of Tryz.func59 (by kernel_rfl) ?_
    refine incls_loop hX hB m0.cs m0.fs hcf _ n E _ ?_ ?_ T t r m0.is hA (by omega) hne _ ?_ ?_ ?_ ?_
    rotate_left
    rotate_left
    · rfl
    · rfl
    · rfl
    · exact ⟨_, rfl, ⟨.inl rfl, .inl rfl, .inl rfl, trivial⟩⟩
    · intro T t r l hA hl hne
      refine decls_loop hX hB n E _ ?_ ?_ T t r ⟨l, m0.cs, m0.fs⟩ hA ⟨by omega, hl, by simp only; omega⟩ hne _ ?_ ?_ ?_ ?_
      rotate_left
      rotate_left
      · rfl
      · rfl
      · rfl
      · rfl
      · intro T t r m hA
        exact WP.leaf ⟨T, t, r, rfl, hA, rfl⟩
      · intro z q T k a b y d2 m σ hm gb gm
        exact WP.finPanM hm gb gm
    · intro z q T k a b y d2 m σ hm gb gm
      exact WP.finPanM hm gb gm
theorem r_module (hX : LibX X) {n : Nat} (hn : n ≤ 100000000) : Rdr X 59 [.box base 0, .box (base + 1) 0] BM 0 0 (pModule n) roM (poM 100000000) :=
  r_moduleG hX (by decide) ⟨[], [], []⟩ ⟨hn, by simpa using hn, by simpa using hn⟩ (.inl ⟨rfl, rfl⟩)
/-- the closures that Module and Fuel hand on -/
theorem r_modfn (hX : LibX X) {n : Nat} (hn : n ≤ 100000000) : Rdr X 58 [.box base 0, .box (base + 1) 0] BM 0 0 (pModule n) roM (poM 100000000) := by
  intro E T t r hA hne
  refine DoesQ.of Tryz.func58 (by kernel_rfl) ?_
  rw [bind_ret (pModule n)] at hne ⊢
  refine Rdr.use (B := BM) (r_module hX hn) hA hne ?_ ?_
  · intro m T t r hA hne
    exact WP.leaf ⟨T, t, r, rfl, hA, rfl⟩
  · rintro z q T k' a b y d2 o ⟨m, hm, rfl⟩
    exact WP.leaf ⟨m, hm, rfl⟩
abbrev BE (c : List V) : List (List V) := [c, e0V]
end Go.Proofs.YtaddhpeainliiaaGreatDoor.Id
