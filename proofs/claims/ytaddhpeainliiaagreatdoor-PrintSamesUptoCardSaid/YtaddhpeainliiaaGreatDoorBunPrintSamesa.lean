/- Texts of this repo, bundled: Kn, IdealA, IdealB, IdealC, IdealD, IdealE, IdealF, IdealG, IdealH, IdealI, IdealJ, IdealK, IdealL, IdealM, IdealN. -/
import Derived.Calls
import Derived.Orders
import Derived.RowKit
import Derived.Below
import Derived.Tactics
import Derived.WalkKit
import Derived.Laws.AppendOwn
import Derived.Laws.BytesArg
import Derived.Laws.StructEq
import Derived.Laws.Slices
import Derived.Laws.Strings3
import Derived.Lib.ConvBytes
import Derived.Lib.AppendStr
import Derived.Deep.MidRow
import Derived.Laws.Cover1
import Derived.Laws.Tables
import Derived.Great.BuildSlice
/-! ## Kn -/
namespace Go.Proofs.YtaddhpeainliiaaGreatDoor.Id
open Go
def knAny (n : Nat) : Bool := !(Nat.beq n 7)
def kn (n : Nat) (t : TypeId) : Bool := match knAny n with
  | true => true
  | false => Nat.beq t 107
theorem knAny_kn {n : Nat} (h : knAny n = true) (t : TypeId) : kn n t = true := by unfold kn; rw [h]
/-- the type of bytes -/
def u8t : TypeId := 5
end Go.Proofs.YtaddhpeainliiaaGreatDoor.Id
/-! ## IdealA -/
namespace Go.Proofs.YtaddhpeainliiaaGreatDoor.Id
open Go

/-- What a cell may hold: a number, a truth, a text, a slice with all that it leads to. -/
inductive D where
  | bool (b : Bool)
  | int (k : IntKind) (n : Int)
  | str (s : ByteArray)
  | nil (n : Nat)
  | sl (n : Nat) (es : List (List D))
  deriving Inhabited
abbrev Tok := Nat × Nat
/-- What a temporary may hold. skip: what an operation yields that was passed over; nilp: no address; lit: a truth that is known; own: a slice behind whose end none but its holder writes; box: an address in a box; ref: the address of cells that never turn. -/
inductive V where
  | undef
  | skip
  | nilp
  | lit (b : Bool)
  | d (x : D)
  | agg (xs : List D)
  | own (t : Tok) (n : Nat) (es : List (List D))
  | box (i off : Nat)
  | ref (xs : List D)
  | fn (f : FuncId) (first captured : List V)
  | iface (t : TypeId) (v : V)
  | tuple (vs : List V)
  deriving Inhabited
inductive TK where
  | sc
  | agg (fs : List (Nat × Nat))
  | arr (e len : Nat)
  | sl (e n bytes : Nat)
/-- A type, as far as it is asked for: its kind, cells, zero cells; cmp: compared cell by cell. -/
structure TI where
  k : TK
  n : Nat
  zero : List V
  cmp : Bool
abbrev TT := List (Nat × TI)
def TT.get : TT → Nat → Option TI
  | [], _ => none
  | (i, x) :: r, t => match Nat.beq i t with | true => some x | false => TT.get r t
/-- surely no pointer -/
def hdNP : V → Bool
  | .d _ => true
  | .lit _ => true
  | .own _ _ _ => true
  | _ => false
/-- surely a pointer -/
def hdP : V → Bool
  | .nilp => true
  | .box _ _ => true
  | _ => false
/-- may a box of this type begin so? -/
def alOk (cs : List V) (t : TypeId) : Bool := match knAny cs.length with
  | true => true
  | false => match cs with
    | c :: _ => match hdNP c with
      | true => true
      | false => kn cs.length t
    | [] => true
/-- may this be written there? -/
def stOk (cs : List V) (off : Nat) (xs : List V) : Bool := match knAny cs.length with
  | true => true
  | false => match off, xs with
    | 0, x :: _ => match hdNP x with
      | true => true
      | false => match cs with
        | c :: _ => hdP c
        | [] => true
    | _, _ => true
structure St where
  t : List (Nat × V)
  b : List (Nat × List V)
def getT : List (Nat × V) → Nat → V
  | [], _ => .undef
  | (i, v) :: r, j => match Nat.beq i j with | true => v | false => getT r j
def getB : List (Nat × List V) → Nat → Option (List V)
  | [], _ => none
  | (i, v) :: r, j => match Nat.beq i j with | true => some v | false => getB r j
def ofConst : Value → V
  | .bool true => .lit true
  | .bool false => .lit false
  | .int k n => .d (.int k n)
  | .string s => .d (.str s)
  | .slice none 0 0 => .d (.nil 0)
  | _ => .undef
def St.ev (σ : St) : Operand → V
  | .tmp i => getT σ.t i
  | .const v => ofConst v
  | .func f => .fn f [] []
  | .global _ => .undef
def eqTok (a b : Tok) : Bool := Nat.beq a.1 b.1 && Nat.beq a.2 b.2
def scrubV (k : Tok) : V → V
  | .own t n es => match eqTok t k with | true => .d (.sl n es) | false => .own t n es
  | v => v
def scrubVs (ks : List Tok) (v : V) : V := ks.foldl (fun v k => scrubV k v) v
mutual
def hasBox (i : Nat) : V → Bool
  | .box j _ => Nat.beq i j
  | .fn _ xs ys => hasBoxes i xs || hasBoxes i ys
  | .iface _ v => hasBox i v
  | .tuple vs => hasBoxes i vs
  | _ => false
def hasBoxes (i : Nat) : List V → Bool
  | [] => false
  | v :: r => hasBox i v || hasBoxes i r
end
def dropV (i : Nat) (v : V) : V := match hasBox i v with | true => .undef | false => v
def dropVs (l : List Nat) (v : V) : V := l.foldl (fun v k => dropV k v) v
/-- a slice that is owned, as one that is read -/
def V.plain : V → V
  | .own _ n es => .d (.sl n es)
  | v => v
def D.norm : D → D
  | .nil n => .sl n []
  | x => x
def V.unlit : V → V
  | .lit b => .d (.bool b)
  | v => v
def V.norm : V → V
  | .lit b => .d (.bool b)
  | .own _ n es => .d (.sl n es)
  | .d (.nil n) => .d (.sl n [])
  | .agg xs => .agg (xs.map D.norm)
  | v => v
def V.toD : V → Option D
  | .lit b => some (.bool b)
  | .d x => some x
  | .own _ n es => some (.sl n es)
  | _ => none
def toDs : List V → Option (List D)
  | [] => some []
  | v :: r => match v.toD, toDs r with
    | some x, some xs => some (x :: xs)
    | _, _ => none
/-- what an operation does: the value, boxes written, tokens that end, boxes whose addresses end -/
structure Eff where
  v : V := .undef
  wr : List (Nat × List V) := []
  scr : List Tok := []
  drp : List Nat := []
abbrev Tmps := List (Nat × V)
abbrev Boxes := List (Nat × List V)
def cleanV (scr : List Tok) (drp : List Nat) (v : V) : V := dropVs drp (scrubVs scr v)
def cleanVs (scr : List Tok) (drp : List Nat) : List V → List V
  | [] => []
  | v :: r => cleanV scr drp v :: cleanVs scr drp r
def cleanT (scr : List Tok) (drp : List Nat) : Tmps → Tmps
  | [] => []
  | (i, v) :: r => (i, cleanV scr drp v) :: cleanT scr drp r
def cleanB (scr : List Tok) (drp : List Nat) : Boxes → Boxes
  | [] => []
  | (i, cs) :: r => (i, cleanVs scr drp cs) :: cleanB scr drp r
inductive Out where
  | ret (v : V) (bx : List (List V))
  | pan (v : V) (bx : List (List V))
inductive Ex where
  | normal
  | exit (id : Nat)
  | ret
  | pan (v : V)
/-- what a run may ask -/
inductive T (α : Type) where
  | leaf (a : α)
  | fail
  | ite (b : Bool) (x y : T α)
  | asrt (p : Prop) (x : T α)
  | idx (es : List (List D)) (j : Int) (k : List D → T α)
  | bytes (es : List (List D)) (k : ByteArray → T α)
  | call (f : FuncId) (args : List V) (bx : List (List V)) (k : Out → T α)
  | loop (c : Code) (σ : St) (k : Ex → St → T α)
noncomputable section
/- (T.bind, evOps, evD, evCode are spelled by recursors, so that Lean's two reducers take the same steps) -/
def T.bind {α β : Type} (t : T α) (f : α → T β) : T β :=
  T.rec (motive := fun _ => T β) (fun a => f a) .fail (fun b _ _ x y => .ite b x y) (fun p _ x => .asrt p x) (fun es j _ k => .idx es j k) (fun es _ k => .bytes es k) (fun g args bx _ k => .call g args bx k) (fun c σ _ k => .loop c σ k) t
section
variable {α β : Type} {f : α → T β}
theorem T.bind_leaf {a : α} : (T.leaf a).bind f = f a := rfl
theorem T.bind_fail : (T.fail : T α).bind f = .fail := rfl
theorem T.bind_ite {b : Bool} {x y : T α} : (T.ite b x y).bind f = .ite b (x.bind f) (y.bind f) := rfl
theorem T.bind_asrt {p : Prop} {x : T α} : (T.asrt p x).bind f = .asrt p (x.bind f) := rfl
theorem T.bind_idx {es : List (List D)} {j : Int} {k : List D → T α} : (T.idx es j k).bind f = .idx es j fun e => (k e).bind f := rfl
theorem T.bind_bytes {es : List (List D)} {k : ByteArray → T α} : (T.bytes es k).bind f = .bytes es fun e => (k e).bind f := rfl
theorem T.bind_call {g : FuncId} {args : List V} {bx : List (List V)} {k : Out → T α} : (T.call g args bx k).bind f = .call g args bx fun e => (k e).bind f := rfl
theorem T.bind_loop {c : Code} {σ : St} {k : Ex → St → T α} : (T.loop c σ k).bind f = .loop c σ fun e σ => (k e σ).bind f := rfl
end
/-! ### values brought to their form ahead of what follows (so that a run never computes a thing twice) -/
def forceD {α : Type} (x : D) (f : D → α) : α :=
  match x with
  | .bool b => f (.bool b)
  | .int k n => f (.int k n)
  | .str s => f (.str s)
  | .nil n => f (.nil n)
  | .sl n es => f (.sl n es)
def forceDs {α : Type} : List D → (List D → α) → α
  | [], f => f []
  | x :: r, f => forceD x fun x => forceDs r fun r => f (x :: r)
def forceV0 {α : Type} (v : V) (f : V → α) : α :=
  match v with
  | .undef => f .undef
  | .skip => f .skip
  | .nilp => f .nilp
  | .lit true => f (.lit true)
  | .lit false => f (.lit false)
  | .d x => forceD x fun x => f (.d x)
  | .agg xs => forceDs xs fun xs => f (.agg xs)
  | .own (a, b) n es => f (.own (a, b) n es)
  | .box i off => f (.box i off)
  | .ref xs => f (.ref xs)
  | .fn g xs ys => f (.fn g xs ys)
  | .iface t v => f (.iface t v)
  | .tuple vs => f (.tuple vs)
def forceVs {α : Type} : List V → (List V → α) → α
  | [], f => f []
  | v :: r, f => forceV0 v fun v => forceVs r fun r => f (v :: r)
def forceV {α : Type} (v : V) (f : V → α) : α :=
  match v with
  | .fn g xs ys => forceVs xs fun xs => forceVs ys fun ys => f (.fn g xs ys)
  | .tuple vs => forceVs vs fun vs => f (.tuple vs)
  | .iface t v => forceV0 v fun v => f (.iface t v)
  | v => forceV0 v f
def forceBs {α : Type} : List (List V) → (List (List V) → α) → α
  | [], f => f []
  | cs :: r, f => forceVs cs fun cs => forceBs r fun r => f (cs :: r)
def forceT {α : Type} : Tmps → (Tmps → α) → α
  | [], f => f []
  | (i, v) :: r, f => forceV v fun v => forceT r fun r => f ((i, v) :: r)
def forceB {α : Type} : Boxes → (Boxes → α) → α
  | [], f => f []
  | (i, cs) :: r, f => forceVs cs fun cs => forceB r fun r => f ((i, cs) :: r)
def catB : Boxes → Boxes → Boxes
  | [], b => b
  | p :: r, b => p :: catB r b
def anyBoxT (i : Nat) : Tmps → Bool
  | [] => false
  | (_, v) :: r => match hasBox i v with | true => true | false => anyBoxT i r
def anyBoxB (i : Nat) : Boxes → Bool
  | [] => false
  | (_, cs) :: r => match hasBoxes i cs with | true => true | false => anyBoxB i r
def finE {α : Type} (t : Tmps) (b : Boxes) (dst : Option Nat) (v : V) (wr : Boxes) (k : Tmps → Boxes → α) : α :=
  forceV v fun v => forceB wr fun wr => match dst with
    | some d => k ((d, v) :: t) (catB wr b)
    | none => k t (catB wr b)
def cleanE {α : Type} (t : Tmps) (b : Boxes) (scr : List Tok) (drp : List Nat) (k : Tmps → Boxes → α) : α :=
  forceT (cleanT scr drp t) fun t => forceB (cleanB scr drp b) fun b => k t b
/-- what an effect makes of the state -/
def applyE {α : Type} (t : Tmps) (b : Boxes) (dst : Option Nat) (e : Eff) (k : Tmps → Boxes → α) : α :=
  match e.scr, e.drp with
  | [], [] => finE t b dst e.v e.wr k
  | [], [d] => match anyBoxT d t, anyBoxB d b with
    | false, false => finE t b dst e.v e.wr k
    | _, _ => cleanE t b [] [d] fun t b => finE t b dst e.v e.wr k
  | scr, drp => cleanE t b scr drp fun t b => finE t b dst e.v e.wr k
/-- a value, or a panic's; and what is done -/
abbrev Res := Option V × Eff
def val (v : V) : T Res := .leaf (none, { v := v })
/-! ### operations on values -/
def bt (s : ByteArray) (i : Int) : Int := if h : i.toNat < s.size then ((s[i.toNat]'h).toNat : Int) else 0
def byteD (c : UInt8) : List D := [.int .u8 (c.toNat : Int)]
def fixnil (tt : TT) (t : Nat) (v : V) : V :=
  match v with
  | .d (.nil 0) => match TT.get tt t with
    | some ⟨.sl _ n _, _, _, _⟩ => .d (.nil n)
    | _ => v
  | _ => v
def eqD : V → D → D → Option Bool
  | .d (.bool _), .bool a, .bool b => some (a == b)
  | .d (.int _ _), .int k a, .int k' b => match decide (k = k') with
    | true => some (decide (a = b))
    | false => none
  | .d (.str _), .str a, .str b => some (decide (a = b))
  | _, _, _ => none
def eqDs : List V → List D → List D → Option Bool
  | [], [], [] => some true
  | z :: zs, x :: xs, y :: ys => match eqD z x y, eqDs zs xs ys with
    | some a, some b => some (a && b)
    | _, _ => none
  | _, _, _ => none
def bitsZ (op : BinOp) (k : IntKind) (x y : Int) : Option Int :=
  let a := BitVec.ofInt k.bits x
  let b := BitVec.ofInt k.bits y
  match op with
  | .and => some (k.wrap (a &&& b).toNat)
  | .or => some (k.wrap (a ||| b).toNat)
  | .xor => some (k.wrap (a ^^^ b).toNat)
  | _ => none
def evInt (op : BinOp) (k : IntKind) (a b : Int) : T V :=
  match op with
  | .add => .leaf (.d (.int k (k.wrap (a + b))))
  | .sub => .leaf (.d (.int k (k.wrap (a - b))))
  | .mul => .leaf (.d (.int k (k.wrap (a * b))))
  | .quo => .asrt (b ≠ 0) (.leaf (.d (.int k (k.wrap (a.tdiv b)))))
  | .rem => .asrt (b ≠ 0) (.leaf (.d (.int k (a.tmod b))))
  | .eql => .leaf (.d (.bool (decide (a = b))))
  | .neq => .leaf (.d (.bool (!decide (a = b))))
  | .lss => .leaf (.d (.bool (decide (a < b))))
  | .leq => .leaf (.d (.bool (decide (a ≤ b))))
  | .gtr => .leaf (.d (.bool (decide (b < a))))
  | .geq => .leaf (.d (.bool (decide (b ≤ a))))
  | .shl => .asrt (0 ≤ b) (.leaf (.d (.int k (k.wrap (a * 2 ^ (min b.toNat k.bits))))))
  | .shr => .asrt (0 ≤ b) (.leaf (.d (.int k (a.fdiv (2 ^ (min b.toNat k.bits))))))
  | op => match bitsZ op k a b with
    | some z => .leaf (.d (.int k z))
    | none => .fail
def evStr (op : BinOp) (a b : ByteArray) : T V :=
  match op with
  | .add => .asrt (a.size + b.size ≤ 9223372036854775807) (.leaf (.d (.str (a ++ b))))
  | .eql => .leaf (.d (.bool (decide (a = b))))
  | .neq => .leaf (.d (.bool (!decide (a = b))))
  | .lss => .leaf (.d (.bool (Op.bytesLess a.data.toList b.data.toList)))
  | .gtr => .leaf (.d (.bool (!(Op.bytesLess a.data.toList b.data.toList || decide (a = b)))))
  | .leq => .leaf (.d (.bool (Op.bytesLess a.data.toList b.data.toList || decide (a = b))))
  | .geq => .leaf (.d (.bool (!Op.bytesLess a.data.toList b.data.toList)))
  | _ => .fail
def evBin (tt : TT) (op : BinOp) (t : Nat) (x y : V) : T V :=
  match x, y with
  | .d (.int k a), .d (.int k' b) => match op with
    | .shl | .shr => evInt op k a b
    | _ => match decide (k = k') with
      | true => evInt op k a b
      | false => .fail
  | .d (.str a), .d (.str b) => evStr op a b
  | .d (.bool a), .d (.bool b) => match TT.get tt t, op with
    | some ⟨.sc, _, [.d (.bool _)], _⟩, .eql => .leaf (.d (.bool (a == b)))
    | some ⟨.sc, _, [.d (.bool _)], _⟩, .neq => .leaf (.d (.bool (!(a == b))))
    | _, _ => .fail
  | .agg xs, .agg ys => match TT.get tt t with
    | some ⟨.agg _, _, zs, true⟩ => match eqDs zs xs ys, op with
      | some b, .eql => .leaf (.d (.bool b))
      | some b, .neq => .leaf (.d (.bool (!b)))
      | _, _ => .fail
    | _ => .fail
  | _, _ => .fail
def evUn (op : UnOp) (x : V) : T V :=
  match op, x with
  | .neg, .d (.int k a) => .leaf (.d (.int k (k.wrap (0 - a))))
  | .not, .d (.bool b) => .leaf (.d (.bool (!b)))
  | _, _ => .fail
def evConv (tt : TT) (s t : Nat) (x : V) : T V :=
  match TT.get tt s, TT.get tt t, x with
  | some ⟨.sc, _, _, _⟩, some ⟨.sc, _, [.d (.int k _)], _⟩, .d (.int _ n) => .leaf (.d (.int k (k.wrap n)))
  | some ⟨.sc, _, _, _⟩, some ⟨.sc, _, [.d (.str _)], _⟩, .d (.str s) => .leaf (.d (.str s))
  | some ⟨.sl _ 1 _, _, _, true⟩, some ⟨.sc, _, [.d (.str _)], _⟩, v => match v.norm with
    | .d (.sl 1 es) => .bytes es fun b => .leaf (.d (.str b))
    | _ => .fail
  | some ⟨.sc, _, [.d (.str _)], _⟩, some ⟨.sl _ 1 _, _, _, true⟩, .d (.str s) => .leaf (.d (.sl 1 (s.data.toList.map byteD)))
  | _, _, _ => .fail
/-- a value's cells, at a type of so many -/
def cellsOf (ti : TI) (v : V) : Option (List V) :=
  match ti.k, v with
  | .agg _, .agg xs | .arr _ _, .agg xs => match Nat.beq xs.length ti.n with
    | true => some (xs.map .d)
    | false => none
  | .agg _, _ | .arr _ _, _ => none
  | _, .agg _ | _, .tuple _ | _, .undef | _, .skip => none
  | _, v => some [v]
def setAt : List V → Nat → List V → List V
  | cs, _, [] => cs
  | [], _, _ => []
  | _ :: cs, 0, x :: xs => x :: setAt cs 0 xs
  | c :: cs, i + 1, xs => c :: setAt cs i xs
def setDs : List D → Nat → List D → List D
  | cs, _, [] => cs
  | [], _, _ => []
  | _ :: cs, 0, x :: xs => x :: setDs cs 0 xs
  | c :: cs, i + 1, xs => c :: setDs cs i xs
def takeD : Nat → List D → Option (List D)
  | 0, _ => some []
  | _ + 1, [] => none
  | n + 1, x :: xs => match takeD n xs with
    | some r => some (x :: r)
    | none => none
def takeV : Nat → List V → Option (List D)
  | 0, _ => some []
  | _ + 1, [] => none
  | n + 1, x :: xs => match x.toD, takeV n xs with
    | some d, some r => some (d :: r)
    | _, _ => none
def loadV (ti : TI) (cs : List V) : Option V :=
  match ti.k with
  | .agg _ | .arr _ _ => match takeV ti.n cs with
    | some r => some (.agg r)
    | none => none
  | _ => match cs with
    | x :: _ => some x
    | [] => none
def loadD (ti : TI) (cs : List D) : Option V :=
  match ti.k with
  | .agg _ | .arr _ _ => match takeD ti.n cs with
    | some r => some (.agg r)
    | none => none
  | _ => match cs with
    | x :: _ => some (.d x)
    | [] => none
def slOf : V → Option (Nat × List (List D))
  | .own _ n es => some (n, es)
  | .d (.sl n es) => some (n, es)
  | .d (.nil n) => some (n, [])
  | _ => none
def here : Nat := 1000000
def byteEs (s : ByteArray) : List (List D) := s.data.toList.map byteD
/-- no byte first, but in rows of bytes -/
def noU8 : List (List D) → Bool
  | ((.int .u8 _) :: _) :: _ => false
  | (_ :: _) :: _ => true
  | _ => true
def okHd (e n : Nat) (es ys : List (List D)) : Bool :=
  match Nat.beq e u8t with
  | true => true
  | false => match Nat.beq n 1 with
    | false => true
    | true => match es with
      | [] => noU8 ys
      | es => noU8 es
def evAppend (tt : TT) (o : Oper) (t : Nat) (x y : V) : T Res :=
  match TT.get tt t, o.dst with
  | some ⟨.sl e n by_, _, _, _⟩, some d =>
    let ys : Option (List (List D)) := match y with
      | .d (.str s) => match n with
        | 1 => some (byteEs s)
        | _ => none
      | v => match slOf v with
        | some (m, es) => match es with
          | [] => some []
          | es => match Nat.beq m n with
            | true => some es
            | false => none
        | none => none
    match x, ys with
    | .own k m es, some ys => match Nat.beq m n, okHd e n es ys with
      | true, true => .asrt ((es.length + ys.length) * by_ ≤ 140737488355328) (.leaf (none, { v := .own k n (es ++ ys), scr := [k] }))
      | _, _ => .fail
    | .d (.nil _), some ys => match okHd e n [] ys with
      | true => .asrt (ys.length * by_ ≤ 140737488355328) (.leaf (none, { v := .own (d, here) n ys, scr := [(d, here)] }))
      | false => .fail
    | _, _ => .fail
  | _, _ => .fail
def setEs : List (List D) → Nat → List D → List (List D)
  | [], _, _ => []
  | _ :: cs, 0, x => x :: cs
  | c :: cs, i + 1, x => c :: setEs cs i x
def fillS (tt : TT) (ti : TI) (n : Nat) : List (Nat × V) → List (List D) → Option (List (List D))
  | [], es => some es
  | (i, v) :: r, es => match cellsOf ti v with
    | some cs => match toDs cs with
      | some ds => match Nat.beq ds.length n, Nat.blt i es.length with
        | true, true => fillS tt ti n r (setEs es i (ds.map D.norm))
        | _, _ => none
      | none => none
    | none => none
def fillF (tt : TT) (fs : List (Nat × Nat)) : List (Nat × V) → List D → Option (List D)
  | [], ds => some ds
  | (i, v) :: r, ds => match fs[i]? with
    | some (off, ft) => match TT.get tt ft with
      | some ti => match cellsOf ti v with
        | some cs => match toDs cs with
          | some xs => match Nat.ble (off + xs.length) ds.length with
            | true => fillF tt fs r (setDs ds off xs)
            | false => none
          | none => none
        | none => none
      | none => none
    | none => none
/-! ### calls -/
def base : Nat := 1000000
mutual
def boxIds : V → List Nat
  | .box i _ => [i]
  | .fn _ xs ys => boxIdss xs ++ boxIdss ys
  | .iface _ v => boxIds v
  | .tuple vs => boxIdss vs
  | _ => []
def boxIdss : List V → List Nat
  | [] => []
  | v :: r => boxIds v ++ boxIdss r
end
def memN (i : Nat) : List Nat → Bool
  | [] => false
  | j :: r => Nat.beq i j || memN i r
def addAll : List Nat → List Nat → List Nat
  | l, [] => l
  | l, i :: r => match memN i l with
    | true => addAll l r
    | false => addAll (l ++ [i]) r
def cellIds (β : Nat → Option (List V)) : List Nat → List Nat
  | [] => []
  | i :: r => (match β i with | some cs => boxIdss cs | none => []) ++ cellIds β r
def posOf (i : Nat) : List Nat → Nat → Option Nat
  | [], _ => none
  | j :: r, n => match Nat.beq i j with | true => some n | false => posOf i r (n + 1)
mutual
def ren (f : Nat → Option Nat) : V → V
  | .box i off => match f i with | some j => .box j off | none => .undef
  | .fn g xs ys => .fn g (rens f xs) (rens f ys)
  | .iface t v => .iface t (ren f v)
  | .tuple vs => .tuple (rens f vs)
  | v => v
def rens (f : Nat → Option Nat) : List V → List V
  | [] => []
  | v :: r => ren f v :: rens f r
end
/-- a box's cells under new names: its own tokens stay, others are lost -/
def cellsRen (f : Nat → Option Nat) (i i' : Nat) : List V → Nat → List V
  | [], _ => []
  | v :: r, c => (match v with
    | .own t n es => match eqTok t (i, c) with
      | true => .own (i', c) n es
      | false => .d (.sl n es)
    | v => ren f v) :: cellsRen f i i' r (c + 1)
def boxesIn (β : Nat → Option (List V)) (f : Nat → Option Nat) : List Nat → Nat → Option (List (List V))
  | [], _ => some []
  | i :: r, j => match β i, boxesIn β f r (j + 1) with
    | some cs, some l => some (cellsRen f i (base + j) cs 0 :: l)
    | _, _ => none
def unb (ids : List Nat) (i : Nat) : Option Nat := match Nat.ble base i with
  | true => ids[i - base]?
  | false => none
def boxesOut (ids : List Nat) : List Nat → Nat → List (List V) → Option (List (Nat × List V))
  | [], _, [] => some []
  | i :: r, j, cs :: l => match boxesOut ids r (j + 1) l with
    | some w => some ((i, cellsRen (unb ids) (base + j) i cs 0) :: w)
    | none => none
  | _, _, _ => none
def toksOf (i : Nat) : List V → Nat → List Tok
  | [], _ => []
  | .own _ _ _ :: r, c => (i, c) :: toksOf i r (c + 1)
  | _ :: r, c => toksOf i r (c + 1)
def catK : List Tok → List Tok → List Tok
  | [], l => l
  | k :: r, l => k :: catK r l
def allToks : Boxes → List Tok
  | [] => []
  | (i, cs) :: r => catK (toksOf i cs 0) (allToks r)
def boxesAt (β : Nat → Option (List V)) : List Nat → Boxes
  | [] => []
  | i :: r => match β i with
    | some cs => (i, cs) :: boxesAt β r
    | none => boxesAt β r
def fixArgs (tt : TT) : List V → List TypeId → List V
  | v :: r, t :: ts => fixnil tt t v :: fixArgs tt r ts
  | l, _ => l
def forceNs {α : Type} : List Nat → (List Nat → α) → α
  | [], f => f []
  | n :: r, f => forceNs r fun r => f (n :: r)
def allIn (l : List Nat) : List Nat → Bool
  | [] => true
  | i :: r => match memN i l with | true => allIn l r | false => false
def normVs : List V → List V
  | [] => []
  | v :: r => v.norm :: normVs r
def evCall (g : FuncId) (args : List V) (β : Nat → Option (List V)) : T Res :=
  forceVs args fun args => forceNs (addAll [] (boxIdss args)) fun l0 => forceNs (addAll l0 (cellIds β l0)) fun l1 => forceNs (addAll l1 (cellIds β l1)) fun ids =>
  match allIn ids (cellIds β ids), boxesIn β (fun i => (posOf i ids 0).map (base + ·)) ids 0 with
  | true, some bx => forceBs bx fun bx => forceVs (normVs (rens (fun i => (posOf i ids 0).map (base + ·)) args)) fun args => .call g args bx fun
    | .ret v bx' => match boxesOut ids ids 0 bx', boxIds v with
      | some w, [] => .leaf (none, { v := v.plain, wr := w, scr := catK (allToks (boxesAt β ids)) (allToks w) })
      | _, _ => .fail
    | .pan v bx' => match boxesOut ids ids 0 bx', boxIds v with
      | some w, [] => .leaf (some v, { wr := w, scr := catK (allToks (boxesAt β ids)) (allToks w) })
      | _, _ => .fail
  | _, _ => .fail
def evBuiltin (tt : TT) (o : Oper) (b : Builtin) (ts : List TypeId) (xs : List V) : T Res :=
  match b, ts, xs with
  | .len, [t], [x] => match TT.get tt t, x with
    | some ⟨.sc, _, [.d (.str _)], _⟩, .d (.str s) => val (.d (.int .i64 s.size))
    | some ⟨.sl _ _ _, _, _, _⟩, x => match slOf x with
      | some (_, es) => val (.d (.int .i64 es.length))
      | none => .fail
    | _, _ => .fail
  | .append, [t, u], [x, y] => match TT.get tt u with
    | some ⟨.sl _ _ _, _, _, _⟩ | some ⟨.sc, _, [.d (.str _)], _⟩ => evAppend tt o t x y
    | _ => .fail
  | .min, _, [.d (.int k a), .d (.int _ b)] => val (.d (.int k (if b < a then b else a)))
  | .max, _, [.d (.int k a), .d (.int _ b)] => val (.d (.int k (if a < b then b else a)))
  | _, _, _ => .fail
def intOf : V → Option Int
  | .d (.int _ n) => some n
  | _ => none
def optInt (ρ : Operand → V) : Option Operand → Option (Option Int)
  | none => some none
  | some x => match intOf (ρ x) with
    | some n => some (some n)
    | none => none
def evSlice (tt : TT) (t : Nat) (x : V) (lo hi : Option Int) : T Res :=
  match x, TT.get tt t with
  | .d (.str s), some ⟨.sc, _, [.d (.str _)], _⟩ =>
    let l := lo.getD 0
    let h := hi.getD s.size
    .asrt (0 ≤ l ∧ l ≤ h ∧ h ≤ s.size) (val (.d (.str (s.extract l.toNat h.toNat))))
  | v, some ⟨.sl _ q _, _, _, _⟩ => match slOf v with
    | some (n, es) => match Nat.beq q n with
      | true =>
        let l := lo.getD 0
        let h := hi.getD es.length
        .asrt (0 ≤ l ∧ l ≤ h ∧ h ≤ es.length) (val (.d (.sl n ((es.take h.toNat).drop l.toNat))))
      | false => .fail
    | none => .fail
  | _, _ => .fail
def isAgg : TK → Bool
  | .agg _ | .arr _ _ => true
  | _ => false
/-- one operation, at the values of its operands and the boxes -/
def opEff (tt : TT) (o : Oper) (ρ : Operand → V) (β : Nat → Option (List V)) : T Res :=
  match o.op with
  | .move x | .assign x => val (fixnil tt o.type (ρ x))
  | .pick c a b => match ρ c with
    | .lit true => val (ρ a)
    | .lit false => val (ρ b)
    | .d (.bool c) => .ite c (val (ρ a)) (val (ρ b))
    | _ => .fail
  | .alloc t => match o.dst, TT.get tt t with
    | some d, some ti => match alOk ti.zero t with
      | true => .leaf (none, { v := .box d 0, wr := [(d, ti.zero)], drp := [d] })
      | false => .fail
    | _, _ => .fail
  | .box t x => match o.dst, TT.get tt t with
    | some d, some ti => match cellsOf ti (ρ x).plain with
      | some cs => match alOk cs t with
        | true => .leaf (none, { v := .box d 0, wr := [(d, cleanVs [] [d] cs)], drp := [d] })
        | false => .fail
      | none => .fail
    | _, _ => .fail
  | .build t ps => match TT.get tt t with
    | some ⟨.agg fs, _, zero, _⟩ => match toDs zero with
      | some z => match fillF tt fs (ps.toList.map fun p => (p.1, ρ p.2)) z with
        | some ds => val (.agg ds)
        | none => .fail
      | none => .fail
    | some ⟨.arr e len, _, zero, _⟩ => match TT.get tt e, toDs zero with
      | some te, some z => match fillF tt ((List.range len).map fun i => (i * te.n, e)) (ps.toList.map fun p => (p.1, ρ p.2)) z with
        | some ds => val (.agg ds)
        | none => .fail
      | _, _ => .fail
    | _ => .fail
  | .buildSlice t len ps => match o.dst, TT.get tt t with
    | some d, some ⟨.sl e n _, _, _, _⟩ => match TT.get tt e with
      | some te => match toDs te.zero with
        | some z => match Nat.ble (len * n) 16777216, fillS tt te n (ps.toList.map fun p => (p.1, ρ p.2)) (List.replicate len z) with
          | true, some es => match okHd e n [] es with
            | true => .leaf (none, { v := .own (d, here) n es, scr := [(d, here)] })
            | false => .fail
          | _, _ => .fail
        | none => .fail
      | none => .fail
    | _, _ => .fail
  | .load t a => match TT.get tt t, ρ a with
    | some ti, .box i off => match β i with
      | some cs => match loadV ti (cs.drop off) with
        | some v => val v
        | none => .fail
      | none => .fail
    | some ti, .ref xs => match loadD ti xs with
      | some v => val v
      | none => .fail
    | _, _ => .fail
  | .store t a x => match TT.get tt t, ρ a with
    | some ti, .box i off => match β i, cellsOf ti (ρ x) with
      | some cs, some xs => match Nat.ble (off + xs.length) cs.length, xs with
        | true, [.own k n es] => .leaf (none, { wr := [(i, setAt (cleanVs [k, (i, off)] [] cs) off [.own (i, off) n es])], scr := [k, (i, off)] })
        | true, xs => match stOk cs off xs with
          | true => .leaf (none, { wr := [(i, setAt cs off xs)] })
          | false => .fail
        | false, _ => .fail
      | _, _ => .fail
    | _, _ => .fail
  | .nilCheck x => match ρ x with
    | .box i off => val (.box i off)
    | .ref xs => val (.ref xs)
    | .fn f a b => val (.fn f a b)
    | _ => .fail
  | .binOp op t x y _ => (evBin tt op t (ρ x).unlit (ρ y).unlit).bind val
  | .unOp op _ x => (evUn op (ρ x).unlit).bind val
  | .convert s t x => (evConv tt s t (ρ x)).bind val
  | .makeInterface t x => match TT.get tt t, (ρ x).norm with
    | some ⟨.sc, _, [.d _], _⟩, .d v => val (.iface t (.d v))
    | some ⟨.agg _, _, _, _⟩, .agg vs => val (.iface t (.agg vs))
    | _, _ => .fail
  | .makeFunc (.func f) a b => val (.fn f (a.toList.map fun x => (ρ x).plain) (b.toList.map fun x => (ρ x).plain))
  | .slice t x lo hi none => match optInt ρ lo, optInt ρ hi with
    | some l, some h => evSlice tt t (ρ x) l h
    | _, _ => .fail
  | .fieldAddr s x f => match TT.get tt s with
    | some ⟨.agg fs, _, _, _⟩ => match fs[f]?, ρ x with
      | some (off, _), .box i o => val (.box i (o + off))
      | some (off, _), .ref xs => val (.ref (xs.drop off))
      | _, _ => .fail
    | _ => .fail
  | .field s x f => match TT.get tt s, ρ x with
    | some ⟨.agg fs, _, _, _⟩, .agg xs => match fs[f]? with
      | some (off, ft) => match TT.get tt ft with
        | some ti => match loadD ti (xs.drop off) with
          | some v => val v
          | none => .fail
        | none => .fail
      | none => .fail
    | _, _ => .fail
  | .indexAddr t x i => match TT.get tt t, slOf (ρ x), intOf (ρ i) with
    | some ⟨.sl _ n _, _, _, _⟩, some (m, es), some j => .idx es j fun e => match Nat.beq m n with
      | true => val (.ref e)
      | false => .fail
    | _, _, _ => .fail
  | .index t x i => match TT.get tt t, ρ x, intOf (ρ i) with
    | some ⟨.sc, _, [.d (.str _)], _⟩, .d (.str s), some j => .asrt (0 ≤ j ∧ j < s.size) (val (.d (.int .u8 (bt s j))))
    | some ⟨.arr e len, _, _, _⟩, .agg xs, some j => match TT.get tt e with
      | some ⟨.sc, 1, _, _⟩ => .idx (xs.map fun x => [x]) j fun c => match c, Nat.beq xs.length len with
        | [x], true => val (.d x)
        | _, _ => .fail
      | _ => .fail
    | _, _, _ => .fail
  | .extract x i => match ρ x with
    | .tuple vs => match vs[i]? with
      | some v => val v.plain
      | none => .fail
    | _ => .fail
  | .panic x => match ρ x with
    | .iface t v => .leaf (some (.iface t v), {})
    | _ => .fail
  | .call c => match c.callee with
    | .builtin b => evBuiltin tt o b c.argTypes.toList (c.args.toList.map ρ)
    | .value f => match ρ f with
      | .fn g a b => evCall g (a ++ fixArgs tt (c.args.toList.map ρ) c.argTypes.toList ++ b) β
      | _ => .fail
    | _ => .fail
  | _ => .fail
/-! ### code -/
def evOp (tt : TT) (o : Oper) (t : Tmps) (b : Boxes) : T (Option V × St) :=
  (opEff tt o (St.ev ⟨t, b⟩) (getB b)).bind fun r => match r with
    | (none, e) => applyE t b o.dst e fun t b => .leaf (none, ⟨t, b⟩)
    | (some v, e) => applyE t b none { e with v := .undef } fun t b => .leaf (some v, ⟨t, b⟩)
def putT (dst : Option Nat) (v : V) (t : Tmps) : Tmps := match dst with
  | some d => (d, v) :: t
  | none => t
def evGuard (tt : TT) (ops : Array Oper) (o : Oper) (t : Tmps) (b : Boxes) : T (Option V × St) :=
  match o.guard with
  | none => evOp tt o t b
  | some (j, want) => match (ops[j]?).bind (·.dst) with
    | none => .fail
    | some d => match getT t d, want with
      | .lit true, true | .lit false, false => evOp tt o t b
      | .lit false, true | .lit true, false | .skip, _ => .leaf (none, ⟨putT o.dst .skip t, b⟩)
      | .d (.bool c), true => .ite c (evOp tt o ((d, .lit true) :: t) b) (.leaf (none, ⟨putT o.dst .skip ((d, .lit false) :: t), b⟩))
      | .d (.bool c), false => .ite c (.leaf (none, ⟨putT o.dst .skip ((d, .lit true) :: t), b⟩)) (evOp tt o ((d, .lit false) :: t) b)
      | _, _ => .fail
def evOps (tt : TT) (ops : Array Oper) (l : List Oper) : Tmps → Boxes → T (Ex × St) :=
  List.rec (motive := fun _ => Tmps → Boxes → T (Ex × St)) (fun t b => .leaf (.normal, ⟨t, b⟩))
    (fun o _ ih t b => (evGuard tt ops o t b).bind fun x => match x with
      | (none, ⟨t, b⟩) => ih t b
      | (some v, σ) => .leaf (.pan v, σ)) l
/-! ### regions whose order is drawn: run in the order of the text; each operation's value, what it wrote and what it looked at are kept, and asked to be the same in every order -/
structure Rec where
  i : Nat
  v : V
  wr : Boxes
  ft : List Nat
  sc : List Tok
  cl : Bool
def memK (t : Tok) : List Tok → Bool
  | [] => false
  | k :: r => eqTok t k || memK t r
/-- where a token ends in a drawn region, nothing is said of its slice any more -/
def scV (sc : List Tok) : V → V
  | .own t n es => match memK t sc with | true => .undef | false => .own t n es
  | v => v
def scVs (sc : List Tok) : List V → List V
  | [] => []
  | v :: r => scV sc v :: scVs sc r
def scTg (sc : List Tok) : Tmps → Tmps
  | [] => []
  | (i, v) :: r => (i, scV sc v) :: scTg sc r
def scBg (sc : List Tok) : Boxes → Boxes
  | [] => []
  | (i, cs) :: r => (i, scVs sc cs) :: scBg sc r
def scT (sc : List Tok) (t : Tmps) : Tmps := match sc with
  | [] => t
  | k1 :: ks => scTg (k1 :: ks) t
def scB (sc : List Tok) (b : Boxes) : Boxes := match sc with
  | [] => b
  | k1 :: ks => scBg (k1 :: ks) b
def scE {α : Type} (t : Tmps) (b : Boxes) (sc : List Tok) (k : Tmps → Boxes → α) : α :=
  match sc with
  | [] => k t b
  | k1 :: ks => forceT (scTg (k1 :: ks) t) fun t => forceB (scBg (k1 :: ks) b) fun b => k t b
/-- no slice that is owned, and none of which nothing is said -/
def nice : V → Bool
  | .undef => false
  | .own _ _ _ => false
  | _ => true
def niceAll (t : Tmps) : List Nat → Bool
  | [] => true
  | d :: r => match nice (getT t d) with | true => niceAll t r | false => false
def callFoot (args : List V) (β : Nat → Option (List V)) : List Nat :=
  addAll (addAll (addAll [] (boxIdss args)) (cellIds β (addAll [] (boxIdss args)))) (cellIds β (addAll (addAll [] (boxIdss args)) (cellIds β (addAll [] (boxIdss args)))))
/-- the boxes that an operation looks at or writes -/
def footB (tt : TT) (o : Oper) (ρ : Operand → V) (β : Nat → Option (List V)) : List Nat :=
  match o.op with
  | .load _ a | .store _ a _ => match ρ a with
    | .box i _ => [i]
    | _ => []
  | .alloc _ | .box _ _ => match o.dst with
    | some d => [d]
    | none => []
  | .call c => match c.callee with
    | .value f => match ρ f with
      | .fn _ a b => callFoot (a ++ fixArgs tt (c.args.toList.map ρ) c.argTypes.toList ++ b) β
      | _ => []
    | _ => []
  | _ => []
def eqOpt : Option Nat → Option Nat → Bool
  | some a, some b => Nat.beq a b
  | _, _ => false
def isNew : Op → Bool
  | .alloc _ | .box _ _ => true
  | _ => false
def opEffD (tt : TT) (o : Oper) (ρ : Operand → V) (β : Nat → Option (List V)) : T Res :=
  match o.op with
  | .buildSlice _ _ _ => (opEff tt o ρ β).bind fun r => match r with
    | (none, { v := .own _ n es, .. }) => .leaf (none, { v := .d (.sl n es) })
    | _ => .fail
  | _ => (opEff tt o ρ β).bind fun r => match r.2.drp with
    | [] => .leaf r
    | [d] => match isNew o.op && eqOpt (some d) o.dst with
      | true => .leaf r
      | false => .fail
    | _ => .fail
def wantD (ops : Array Oper) (o : Oper) (t : Tmps) : T Bool :=
  match o.guard with
  | none => .leaf true
  | some (j, want) => match (ops[j]?).bind (·.dst) with
    | none => .fail
    | some d => match getT t d with
      | .lit c => .leaf (c == want)
      | .skip => .leaf false
      | .d (.bool c) => .ite c (.leaf want) (.leaf (!want))
      | _ => .fail
def evD (tt : TT) (ops : Array Oper) (l : List Oper) : Nat → Tmps → Boxes → List Rec → T (List Rec × Option V × St) :=
  List.rec (motive := fun _ => Nat → Tmps → Boxes → List Rec → T (List Rec × Option V × St)) (fun _ t b rs => .leaf (rs, none, ⟨t, b⟩))
    (fun o _ ih i t b rs => (wantD ops o t).bind fun
      | false => ih (i + 1) (putT o.dst .skip t) b (⟨i, .skip, [], [], [], niceAll t (o.looksAt ops)⟩ :: rs)
      | true => forceNs (footB tt o (St.ev ⟨t, b⟩) (getB b)) fun ft => (opEffD tt o (St.ev ⟨t, b⟩) (getB b)).bind fun
        | (none, e) => forceV e.v fun v => forceB e.wr fun wr => scE t b e.scr fun t1 b1 => ih (i + 1) (putT o.dst v t1) (catB wr b1) (⟨i, v, wr, ft, e.scr, niceAll t (o.looksAt ops)⟩ :: rs)
        | (some u, e) => forceB e.wr fun wr => scE t b e.scr fun _ b1 => .leaf (⟨i, .undef, wr, ft, e.scr, niceAll t (o.looksAt ops)⟩ :: rs, some u, ⟨t, catB wr b1⟩)) l
/-- direct edges -/
def hasEdge (ops : Array Oper) (i p : Nat) : Bool := match ops[i]? with
  | some o => o.after.toList.any fun e => Region.binds .any e && Nat.beq e.on p
  | none => false
def inOpt (d : Option Nat) (l : List Nat) : Bool := match d with
  | some d => memN d l
  | none => false
def statPair (ops : Array Oper) (p i : Nat) (o q : Oper) : Bool :=
  (!(inOpt o.dst (q.looksAt ops) || eqOpt o.dst q.dst || inOpt q.dst (o.looksAt ops))) || hasEdge ops i p
def statFrom (ops : Array Oper) (q : Oper) (i : Nat) : List Oper → Nat → Bool
  | [], _ => true
  | o :: r, p => (match Nat.blt p i with | true => statPair ops p i o q | false => true) && statFrom ops q i r (p + 1)
def statGo (ops : Array Oper) : List Oper → Nat → Bool
  | [], _ => true
  | o :: r, i => (o.after.toList.all fun e => !Region.binds .any e || Nat.blt e.on i) && statFrom ops o i ops.toList 0 && statGo ops r (i + 1)
def statOk (ops : Array Oper) : Bool := statGo ops ops.toList 0
def anyEdge (l : List Nat) : List Edge → Bool
  | [] => false
  | e :: r => (Region.binds .any e && memN e.on l) || anyEdge l r
def reachGo : List Oper → Nat → List Nat → List Nat
  | [], _, acc => acc
  | o :: r, k, acc => match anyEdge acc o.after.toList with
    | true => reachGo r (k + 1) (k :: acc)
    | false => reachGo r (k + 1) acc
/-- i and what comes behind it in every order -/
def reach (ops : Array Oper) (i : Nat) : List Nat := reachGo (ops.toList.drop (i + 1)) (i + 1) [i]
def isRow : Op → Bool
  | .buildSlice _ _ _ => true
  | _ => false
def newsOf : List Oper → List Nat
  | [] => []
  | o :: r => match isNew o.op, o.dst with
    | true, some d => d :: newsOf r
    | _, _ => newsOf r
def rowsOf : List Oper → List Tok
  | [] => []
  | o :: r => match isRow o.op, o.dst with
    | true, some d => (d, here) :: rowsOf r
    | _, _ => rowsOf r
def isTok (k : Tok) : V → Bool
  | .own t _ _ => eqTok t k
  | _ => false
def anyTok (k : Tok) : List V → Bool
  | [] => false
  | v :: r => isTok k v || anyTok k r
def recTok (k : Tok) (r : Rec) : Bool := isTok k r.v || r.wr.any fun p => anyTok k p.2
def recBox (d : Nat) (r : Rec) : Bool := hasBox d r.v || r.wr.any fun p => hasBoxes d p.2
def meets (r p : Rec) : Bool := r.ft.any fun q => p.wr.any fun z => Nat.beq z.1 q
/-- p writes what r looks at: so one comes behind the other in every order -/
def pairOk (ops : Array Oper) (r p : Rec) : Bool :=
  Nat.beq r.i p.i || !meets r p || match Nat.blt p.i r.i with
    | true => memN r.i (reach ops p.i)
    | false => memN p.i (reach ops r.i)
def newOk (ops : Array Oper) (rs : List Rec) (r : Rec) : Bool :=
  match ops[r.i]? with
  | some o => match isNew o.op, isRow o.op, o.dst with
    | true, _, some d => rs.all fun p => memN p.i (reach ops r.i) || !recBox d p
    | _, true, some d => rs.all fun p => !recTok (d, here) p
    | _, _, _ => true
  | none => true
def panOk (ops : Array Oper) (n : Nat) : List Rec → Bool
  | [] => true
  | r :: rs => (List.range' (r.i + 1) (n - (r.i + 1))).all (fun j => memN j (reach ops r.i)) && rs.all fun p => memN r.i (reach ops p.i) || (p.wr.isEmpty && p.sc.isEmpty)
def inLine (ops : Array Oper) (r p : Rec) : Bool :=
  match Nat.blt p.i r.i with
  | true => memN r.i (reach ops p.i)
  | false => memN p.i (reach ops r.i)
/-- p ends tokens: all else stands ahead of it or behind it in every order, or has nothing to do with slices that are owned -/
def endsOk (ops : Array Oper) (rs : List Rec) (p : Rec) : Bool :=
  match p.sc with
  | [] => true
  | ks => rs.all fun r => Nat.beq r.i p.i || inLine ops r p || (r.cl && r.ft.isEmpty && r.sc.isEmpty && ks.all fun k => !recTok k r)
def dynOk (ops : Array Oper) (rs : List Rec) (pan : Bool) : Bool :=
  rs.all (fun r => rs.all fun p => pairOk ops r p) && rs.all (fun r => newOk ops rs r && r.wr.all fun z => memN z.1 r.ft) && (!pan || panOk ops ops.size rs) && rs.all (endsOk ops rs)
def exOf : Option V → Ex
  | some v => .pan v
  | none => .normal
def evDrawn (tt : TT) (ops : Array Oper) (t : Tmps) (b : Boxes) : T (Ex × St) :=
  .asrt (statOk ops = true) (match newsOf ops.toList, rowsOf ops.toList with
    | [], [] => (evD tt ops ops.toList 0 t b []).bind fun | (rs, p, σ) => .asrt (dynOk ops rs p.isSome = true) (.leaf (exOf p, σ))
    | ns, ts => cleanE t b ts ns fun t b => (evD tt ops ops.toList 0 t b []).bind fun | (rs, p, σ) => .asrt (dynOk ops rs p.isSome = true) (.leaf (exOf p, σ)))
/-- the temporaries that are still spoken of, each brought to its form -/
def prune {α : Type} (l : List Nat) : Tmps → (Tmps → α) → α
  | [], f => f []
  | (i, v) :: r, f => match memN i l with
    | true => forceV v fun v => prune l r fun r => f ((i, v) :: r)
    | false => prune l r f
/-- G: the temporaries that outlive a region (none: all) -/
def evRegion (tt : TT) (G : Option (List Nat)) (ops : Array Oper) (draw : Bool) (t : Tmps) (b : Boxes) : T (Ex × St) :=
  match draw, G with
  | false, none => evOps tt ops ops.toList t b
  | false, some l => prune l t fun t => forceB b fun b => evOps tt ops ops.toList t b
  | true, none => evDrawn tt ops t b
  | true, some l => prune l t fun t => forceB b fun b => evDrawn tt ops t b
def evCode (tt : TT) (G : Option (List Nat)) (c : Code) : Tmps → Boxes → T (Ex × St) :=
  Code.rec (motive := fun _ => Tmps → Boxes → T (Ex × St)) (fun t b => .leaf (.normal, ⟨t, b⟩)) (fun _ ops draw t b => evRegion tt G ops draw t b)
    (fun _ _ x y t b => (x t b).bind fun r => match r with
      | (.normal, ⟨t, b⟩) => y t b
      | r => .leaf r)
    (fun c _ _ x y t b => match St.ev ⟨t, b⟩ c with
      | .lit true => x t b
      | .lit false => y t b
      | .d (.bool q) => .ite q (x t b) (y t b)
      | _ => .fail)
    (fun id _ x t b => (x t b).bind fun r => match r with
      | (.exit j, σ) => match Nat.beq j id with
        | true => .leaf (.normal, σ)
        | false => .leaf (.exit j, σ)
      | r => .leaf r)
    (fun c _ t b => .loop c ⟨t, b⟩ fun e σ => .leaf (e, σ))
    (fun _ _ _ _ _ _ _ _ => .fail) (fun id t b => .leaf (.exit id, ⟨t, b⟩)) (fun _ _ _ _ => .fail) (fun _ t b => .leaf (.normal, ⟨t, b⟩)) (fun _ _ _ => .fail) (fun t b => .leaf (.ret, ⟨t, b⟩)) (fun _ _ _ => .fail) c
/-- every place that is written is one of so many -/
def dstOk (n : Nat) : Code → Bool
  | .region _ ops _ => ops.toList.all fun o => match o.dst with
    | some d => Nat.blt d n
    | none => true
  | .seq a b | .cond _ a b | .rangeFunc _ _ a b => dstOk n a && dstOk n b
  | .block _ c | .loop c | .scope c => dstOk n c
  | _ => true
def resOf (tt : TT) (σ : St) : ResultVar → Option V
  | .tmp t => some (getT σ.t t).norm
  | .cell a t => match getT σ.t a, TT.get tt t with
    | .box i off, some ti => match getB σ.b i with
      | some cs => match loadV ti (cs.drop off) with
        | some v => some v.norm
        | none => none
      | none => none
    | _, _ => none
def resAll (tt : TT) (σ : St) : List ResultVar → Option (List V)
  | [] => some []
  | r :: l => match resOf tt σ r, resAll tt σ l with
    | some v, some vs => some (v :: vs)
    | _, _ => none
def oneRes : List V → V
  | [v] => v
  | vs => .tuple vs
theorem oneRes_1 (v : V) : oneRes [v] = v := rfl
def keepB (n : Nat) (i : Nat) : Option Nat := match Nat.ble base i && Nat.blt i (base + n) with
  | true => some i
  | false => none
def outB (σ : St) (n : Nat) : Nat → Option (List (List V))
  | 0 => some []
  | m + 1 => match getB σ.b (base + (n - (m + 1))), outB σ n m with
    | some cs, some l => some (cellsRen (keepB n) (base + (n - (m + 1))) (base + (n - (m + 1))) cs 0 :: l)
    | _, _ => none
def fin (tt : TT) (fn : Func) (n : Nat) (x : Ex × St) : T Out :=
  match outB x.2 n n with
  | none => .fail
  | some bx => match x.1 with
    | .normal | .ret => match resAll tt x.2 fn.results.toList with
      | some vs => forceVs vs fun vs => forceBs bx fun bx => forceV (oneRes vs) fun v => .leaf (.ret v bx)
      | none => .fail
    | .pan v => forceBs bx fun bx => .leaf (.pan v bx)
    | _ => .fail
def number {α : Type} (b : Nat) : List α → Nat → List (Nat × α)
  | [], _ => []
  | x :: r, i => (b + i, x) :: number b r (i + 1)
def evBody (tt : TT) (G : Option (List Nat)) (fn : Func) (args : List V) (bx : List (List V)) : T Out :=
  match fn.body with
  | some c => match dstOk fn.ntmps c && Nat.ble args.length fn.ntmps && Nat.ble fn.ntmps base with
    | true => (evCode tt G c (number 0 args 0) (number base bx 0)).bind (fin tt fn bx.length)
    | false => .fail
  | none => .fail
end
end Go.Proofs.YtaddhpeainliiaaGreatDoor.Id
/-! ## IdealB -/
namespace Go.Proofs.YtaddhpeainliiaaGreatDoor.Id
open Go

def hasTok (k : Tok) : List (Nat × V) → Bool
  | [] => false
  | (_, .own t _ _) :: r => eqTok t k || hasTok k r
  | _ :: r => hasTok k r
def hasTokV (k : Tok) : List V → Bool
  | [] => false
  | .own t _ _ :: r => eqTok t k || hasTokV k r
  | _ :: r => hasTokV k r
def hasTokB (k : Tok) : List (Nat × List V) → Bool
  | [] => false
  | (_, cs) :: r => hasTokV k cs || hasTokB k r
/-- a value that says less: a nil slice is an empty one that none else holds -/
def WkV (σ : St) (v u : V) : Prop := v = u ∨ v = .undef ∨ ∃ k n m, v = .own k n [] ∧ u = .d (.nil m) ∧ hasTok k σ.t = false ∧ hasTokB k σ.b = false
def WkVs (σ : St) : List V → List V → Prop
  | [], [] => True
  | v :: r, u :: s => WkV σ v u ∧ WkVs σ r s
  | _, _ => False
def WkT (σ : St) : List (Nat × V) → Prop
  | [] => True
  | (i, v) :: r => WkV σ v (getT σ.t i) ∧ WkT σ r
def WkB (σ : St) : List (Nat × List V) → Prop
  | [] => True
  | (i, cs) :: r => (∃ us, getB σ.b i = some us ∧ WkVs σ cs us) ∧ WkB σ r
def Wk (σ' σ : St) : Prop := WkT σ σ'.t ∧ WkB σ σ'.b

/-- contracts that are given -/
abbrev Given := FuncId → List V → List (List V) → Out → Prop
section
variable (P : Program) (tt : TT) (X : Given)
inductive DenN : Nat → (α : Type) → T α → α → Prop where
  | leaf {n : Nat} {α : Type} (a : α) : DenN n α (.leaf a) a
  | iteT {n : Nat} {α : Type} {b : Bool} {x y : T α} {a : α} : b = true → DenN n α x a → DenN n α (.ite b x y) a
  | iteF {n : Nat} {α : Type} {b : Bool} {x y : T α} {a : α} : b = false → DenN n α y a → DenN n α (.ite b x y) a
  | asrt {n : Nat} {α : Type} {p : Prop} {x : T α} {a : α} : p → DenN n α x a → DenN n α (.asrt p x) a
  | idx {n : Nat} {α : Type} {es : List (List D)} {j : Int} {k : List D → T α} {a : α} {e : List D} : 0 ≤ j → es[j.toNat]? = some e → DenN n α (k e) a → DenN n α (.idx es j k) a
  | bytes {n : Nat} {α : Type} {es : List (List D)} {k : ByteArray → T α} {a : α} {bs : List UInt8} : es = bs.map byteD → DenN n α (k ⟨bs.toArray⟩) a → DenN n α (.bytes es k) a
  | call {n : Nat} {α : Type} {G : Option (List Nat)} {f : FuncId} {args : List V} {bx : List (List V)} {k : Out → T α} {a : α} {fn : Func} {o : Out} :
      P.funcs[f]? = some fn → (fn.name == "runtime.NumGoroutine") = false → DenN n Out (evBody tt G fn args bx) o → DenN n α (k o) a → DenN (n + 1) α (.call f args bx k) a
  | ext {n : Nat} {α : Type} {f : FuncId} {args : List V} {bx : List (List V)} {k : Out → T α} {a : α} {o : Out} : X f args bx o → DenN n α (k o) a → DenN n α (.call f args bx k) a
  | loopN {n : Nat} {α : Type} {G : Option (List Nat)} {c : Code} {σ σ' σ2 : St} {k : Ex → St → T α} {a : α} : Wk σ' σ → DenN n (Ex × St) (evCode tt G c σ'.t σ'.b) (.normal, σ2) → DenN n α (.loop c σ2 k) a → DenN (n + 1) α (.loop c σ k) a
  | loopX {n : Nat} {α : Type} {G : Option (List Nat)} {c : Code} {σ σ' σ2 σ3 : St} {k : Ex → St → T α} {a : α} {e : Ex} : e ≠ .normal → Wk σ' σ → DenN n (Ex × St) (evCode tt G c σ'.t σ'.b) (e, σ2) → (σ3 = σ2 ∨ (∀ v, e ≠ .pan v) ∧ Wk σ3 σ2) → DenN n α (k e σ3) a → DenN (n + 1) α (.loop c σ k) a
end
section
variable {P : Program} {tt : TT} {X : Given}
theorem DenN.up {n : Nat} {α : Type} {t : T α} {a : α} (h : DenN P tt X n α t a) : ∀ m, n ≤ m → DenN P tt X m α t a := by
  induction h with
  | leaf a => exact fun m _ => .leaf a
  | iteT h _ ih => exact fun m hm => .iteT h (ih m hm)
  | iteF h _ ih => exact fun m hm => .iteF h (ih m hm)
  | asrt h _ ih => exact fun m hm => .asrt h (ih m hm)
  | idx h1 h2 _ ih => exact fun m hm => .idx h1 h2 (ih m hm)
  | bytes h _ ih => exact fun m hm => .bytes h (ih m hm)
  | call h1 h2 _ _ ih1 ih2 => exact fun m hm => by obtain ⟨m, rfl⟩ : ∃ q, m = q + 1 := ⟨m - 1, by omega⟩; exact .call h1 h2 (ih1 m (by omega)) (ih2 m (by omega))
  | ext h _ ih => exact fun m hm => .ext h (ih m hm)
  | loopN h1 _ _ ih1 ih2 => exact fun m hm => by obtain ⟨m, rfl⟩ : ∃ q, m = q + 1 := ⟨m - 1, by omega⟩; exact .loopN h1 (ih1 m (by omega)) (ih2 m (by omega))
  | loopX h0 h1 _ h3 _ ih1 ih2 => exact fun m hm => by obtain ⟨m, rfl⟩ : ∃ q, m = q + 1 := ⟨m - 1, by omega⟩; exact .loopX h0 h1 (ih1 m (by omega)) h3 (ih2 m (by omega))
end
section
variable (P : Program) (tt : TT) (X : Given)
/-- the tree comes to this -/
def Den {α : Type} (t : T α) (a : α) : Prop := ∃ n, DenN P tt X n α t a
end
section
variable {P : Program} {tt : TT} {X : Given} {α : Type}
theorem Den.leaf (a : α) : Den P tt X (.leaf a) a := ⟨0, .leaf a⟩
theorem Den.leaf' {a b : α} (h : a = b) : Den P tt X (.leaf a) b := h ▸ .leaf a
theorem Den.iteT {b : Bool} {x y : T α} {a : α} (h : b = true) (k : Den P tt X x a) : Den P tt X (.ite b x y) a := let ⟨n, k⟩ := k; ⟨n, .iteT h k⟩
theorem Den.iteF {b : Bool} {x y : T α} {a : α} (h : b = false) (k : Den P tt X y a) : Den P tt X (.ite b x y) a := let ⟨n, k⟩ := k; ⟨n, .iteF h k⟩
theorem Den.ite {b : Bool} {x y : T α} {a : α} (h1 : b = true → Den P tt X x a) (h2 : b = false → Den P tt X y a) : Den P tt X (.ite b x y) a := by
  cases b
  · exact .iteF rfl (h2 rfl)
  · exact .iteT rfl (h1 rfl)
/-- a test that is told as a proposition -/
theorem Den.dec {p : Prop} [Decidable p] {x y : T α} {a : α} (h1 : p → Den P tt X x a) (h2 : ¬ p → Den P tt X y a) : Den P tt X (.ite (decide p) x y) a :=
  .ite (fun h => h1 (of_decide_eq_true h)) (fun h => h2 (of_decide_eq_false h))
theorem Den.asrt {p : Prop} {x : T α} {a : α} (h : p) (k : Den P tt X x a) : Den P tt X (.asrt p x) a := let ⟨n, k⟩ := k; ⟨n, .asrt h k⟩
theorem Den.idx {es : List (List D)} {j : Int} {f : List D → T α} {a : α} (e : List D) (h0 : 0 ≤ j) (h : es[j.toNat]? = some e) (k : Den P tt X (f e) a) : Den P tt X (.idx es j f) a := let ⟨n, k⟩ := k; ⟨n, .idx h0 h k⟩
theorem Den.bytes {es : List (List D)} {f : ByteArray → T α} {a : α} (bs : List UInt8) (h : es = bs.map byteD) (k : Den P tt X (f ⟨bs.toArray⟩) a) : Den P tt X (.bytes es f) a := let ⟨n, k⟩ := k; ⟨n, .bytes h k⟩
theorem Den.ext {f : FuncId} {args : List V} {bx : List (List V)} {g : Out → T α} {a : α} (o : Out) (h : X f args bx o) (k : Den P tt X (g o) a) : Den P tt X (.call f args bx g) a := let ⟨n, k⟩ := k; ⟨n, .ext h k⟩
theorem Den.enter {G : Option (List Nat)} {f : FuncId} {args : List V} {bx : List (List V)} {g : Out → T α} {a : α} {fn : Func} (o : Out) (hf : P.funcs[f]? = some fn) (hn : (fn.name == "runtime.NumGoroutine") = false)
    (h : Den P tt X (evBody tt G fn args bx) o) (k : Den P tt X (g o) a) : Den P tt X (.call f args bx g) a :=
  let ⟨n, h⟩ := h; let ⟨m, k⟩ := k; ⟨max n m + 1, .call hf hn (h.up _ (Nat.le_max_left _ _)) (k.up _ (Nat.le_max_right _ _))⟩
theorem Den.loopN {G : Option (List Nat)} {c : Code} {σ σ2 : St} {k : Ex → St → T α} {a : α} (σ' : St) (w : Wk σ' σ) (h : Den P tt X (evCode tt G c σ'.t σ'.b) (.normal, σ2)) (g : Den P tt X (.loop c σ2 k) a) : Den P tt X (.loop c σ k) a :=
  let ⟨n, h⟩ := h; let ⟨m, g⟩ := g; ⟨max n m + 1, .loopN w (h.up _ (Nat.le_max_left _ _)) (g.up _ (Nat.le_max_right _ _))⟩
theorem Den.loopX {G : Option (List Nat)} {c : Code} {σ σ2 : St} {k : Ex → St → T α} {a : α} {e : Ex} (σ' : St) (he : e ≠ .normal) (w : Wk σ' σ) (h : Den P tt X (evCode tt G c σ'.t σ'.b) (e, σ2)) (g : Den P tt X (k e σ2) a) : Den P tt X (.loop c σ k) a :=
  let ⟨n, h⟩ := h; let ⟨m, g⟩ := g; ⟨max n m + 1, .loopX he w (h.up _ (Nat.le_max_left _ _)) (.inl rfl) (g.up _ (Nat.le_max_right _ _))⟩
/-- the loop is left, and less is said behind it -/
theorem Den.loopW {G : Option (List Nat)} {c : Code} {σ σ2 : St} {k : Ex → St → T α} {a : α} {e : Ex} (σ' σ3 : St) (he : e ≠ .normal) (hp : ∀ v, e ≠ .pan v) (w : Wk σ' σ) (h : Den P tt X (evCode tt G c σ'.t σ'.b) (e, σ2)) (w3 : Wk σ3 σ2) (g : Den P tt X (k e σ3) a) : Den P tt X (.loop c σ k) a :=
  let ⟨n, h⟩ := h; let ⟨m, g⟩ := g; ⟨max n m + 1, .loopX he w (h.up _ (Nat.le_max_left _ _)) (.inr ⟨hp, w3⟩) (g.up _ (Nat.le_max_right _ _))⟩
theorem DenN.bind {n m : Nat} {β : Type} {t : T α} {f : α → T β} {a : α} {b : β} (h : DenN P tt X n α t a) (hn : n ≤ m) (k : DenN P tt X m β (f a) b) : DenN P tt X (n + m) β (t.bind f) b := by
  induction h with
  | leaf a => exact k.up _ (by omega)
  | iteT h _ ih => exact .iteT h (ih hn k)
  | iteF h _ ih => exact .iteF h (ih hn k)
  | asrt h _ ih => exact .asrt h (ih hn k)
  | idx h1 h2 _ ih => exact .idx h1 h2 (ih hn k)
  | bytes h _ ih => exact .bytes h (ih hn k)
  | @call n α G f args bx g a fn o h1 h2 h3 _ _ ih2 =>
    rw [show n + 1 + m = (n + m) + 1 by omega]
    exact .call h1 h2 (h3.up _ (by omega)) (ih2 (by omega) k)
  | ext h _ ih => exact .ext h (ih hn k)
  | @loopN n α G c σ σ' σ2 g a h1 h2 _ _ ih2 =>
    rw [show n + 1 + m = (n + m) + 1 by omega]
    exact .loopN h1 (h2.up _ (by omega)) (ih2 (by omega) k)
  | @loopX n α G c σ σ' σ2 σ3 g a e h0 h1 h2 h3 _ _ ih2 =>
    rw [show n + 1 + m = (n + m) + 1 by omega]
    exact .loopX h0 h1 (h2.up _ (by omega)) h3 (ih2 (by omega) k)
theorem Den.bind {β : Type} {t : T α} {f : α → T β} {a : α} {b : β} (h : Den P tt X t a) (k : Den P tt X (f a) b) : Den P tt X (t.bind f) b :=
  let ⟨n, h⟩ := h; let ⟨m, k⟩ := k; ⟨n + max n m, h.bind (Nat.le_max_left _ _) (k.up _ (Nat.le_max_right _ _))⟩
/-- what a bound tree comes to, taken apart -/
theorem DenN.unbind {n : Nat} {β : Type} {t : T α} {f : α → T β} {b : β} (h : DenN P tt X n β (t.bind f) b) : ∃ a, DenN P tt X n α t a ∧ DenN P tt X n β (f a) b := by
  generalize ht : t.bind f = u at h
  induction h generalizing t with
  | leaf a => 
    cases t <;> simp only [T.bind_leaf, T.bind_fail, T.bind_ite, T.bind_asrt, T.bind_idx, T.bind_bytes, T.bind_call, T.bind_loop] at ht <;> try (cases ht; done)
    exact ⟨_, .leaf _, ht ▸ .leaf _⟩
  | iteT h hk ih =>
    cases t <;> simp only [T.bind_leaf, T.bind_fail, T.bind_ite, T.bind_asrt, T.bind_idx, T.bind_bytes, T.bind_call, T.bind_loop] at ht <;> try (cases ht; done)
    · exact ⟨_, .leaf _, ht ▸ .iteT h hk⟩
    · cases ht; obtain ⟨a, h1, h2⟩ := ih rfl; exact ⟨a, .iteT h h1, h2⟩
  | iteF h hk ih =>
    cases t <;> simp only [T.bind_leaf, T.bind_fail, T.bind_ite, T.bind_asrt, T.bind_idx, T.bind_bytes, T.bind_call, T.bind_loop] at ht <;> try (cases ht; done)
    · exact ⟨_, .leaf _, ht ▸ .iteF h hk⟩
    · cases ht; obtain ⟨a, h1, h2⟩ := ih rfl; exact ⟨a, .iteF h h1, h2⟩
  | asrt h hk ih =>
    cases t <;> simp only [T.bind_leaf, T.bind_fail, T.bind_ite, T.bind_asrt, T.bind_idx, T.bind_bytes, T.bind_call, T.bind_loop] at ht <;> try (cases ht; done)
    · exact ⟨_, .leaf _, ht ▸ .asrt h hk⟩
    · cases ht; obtain ⟨a, h1, h2⟩ := ih rfl; exact ⟨a, .asrt h h1, h2⟩
  | idx h0 h hk ih =>
    cases t <;> simp only [T.bind_leaf, T.bind_fail, T.bind_ite, T.bind_asrt, T.bind_idx, T.bind_bytes, T.bind_call, T.bind_loop] at ht <;> try (cases ht; done)
    · exact ⟨_, .leaf _, ht ▸ .idx h0 h hk⟩
    · cases ht; obtain ⟨a, h1, h2⟩ := ih rfl; exact ⟨a, .idx h0 h h1, h2⟩
  | bytes h hk ih =>
    cases t <;> simp only [T.bind_leaf, T.bind_fail, T.bind_ite, T.bind_asrt, T.bind_idx, T.bind_bytes, T.bind_call, T.bind_loop] at ht <;> try (cases ht; done)
    · exact ⟨_, .leaf _, ht ▸ .bytes h hk⟩
    · cases ht; obtain ⟨a, h1, h2⟩ := ih rfl; exact ⟨a, .bytes h h1, h2⟩
  | call h1 h2 h3 hk ih1 ih2 =>
    cases t <;> simp only [T.bind_leaf, T.bind_fail, T.bind_ite, T.bind_asrt, T.bind_idx, T.bind_bytes, T.bind_call, T.bind_loop] at ht <;> try (cases ht; done)
    · exact ⟨_, .leaf _, ht ▸ .call h1 h2 h3 hk⟩
    · cases ht; obtain ⟨a, g1, g2⟩ := ih2 rfl; exact ⟨a, .call h1 h2 h3 g1, g2.up _ (by omega)⟩
  | ext h hk ih =>
    cases t <;> simp only [T.bind_leaf, T.bind_fail, T.bind_ite, T.bind_asrt, T.bind_idx, T.bind_bytes, T.bind_call, T.bind_loop] at ht <;> try (cases ht; done)
    · exact ⟨_, .leaf _, ht ▸ .ext h hk⟩
    · cases ht; obtain ⟨a, h1, h2⟩ := ih rfl; exact ⟨a, .ext h h1, h2⟩
  | loopN h1 h2 hk ih1 ih2 =>
    cases t <;> simp only [T.bind_leaf, T.bind_fail, T.bind_ite, T.bind_asrt, T.bind_idx, T.bind_bytes, T.bind_call, T.bind_loop] at ht <;> try (cases ht; done)
    · exact ⟨_, .leaf _, ht ▸ .loopN h1 h2 hk⟩
    · cases ht; obtain ⟨a, g1, g2⟩ := ih2 (t := .loop _ _ _) rfl; exact ⟨a, .loopN h1 h2 g1, g2.up _ (by omega)⟩
  | loopX h0 h1 h2 h3 hk ih1 ih2 =>
    cases t <;> simp only [T.bind_leaf, T.bind_fail, T.bind_ite, T.bind_asrt, T.bind_idx, T.bind_bytes, T.bind_call, T.bind_loop] at ht <;> try (cases ht; done)
    · exact ⟨_, .leaf _, ht ▸ .loopX h0 h1 h2 h3 hk⟩
    · cases ht; obtain ⟨a, g1, g2⟩ := ih2 rfl; exact ⟨a, .loopX h0 h1 h2 h3 g1, g2.up _ (by omega)⟩
end
end Go.Proofs.YtaddhpeainliiaaGreatDoor.Id
/-! ## IdealC -/
namespace Go.Proofs.YtaddhpeainliiaaGreatDoor.Id
open Go
set_option linter.unusedVariables false
set_option linter.unusedSimpArgs false

/-- cells that never turn again -/
abbrev H := Nat → Nat → Option Value
inductive RepD (h : H) : Value → D → Prop where
  | bool (b : Bool) : RepD h (.bool b) (.bool b)
  | int (k : IntKind) (n : Int) : RepD h (.int k n) (.int k n)
  | str (s : ByteArray) : RepD h (.string s) (.str s)
  | nil (n : Nat) : RepD h (.slice none 0 0) (.nil n)
  | sl0 (n : Nat) : RepD h (.slice none 0 0) (.sl n [])
  | sl (a : Addr) (cap n : Nat) (es : List (List D)) (vs : Nat → Nat → Value) (ha : es ≠ [] → a.spot = none) (hc : es.length ≤ cap)
      (hn : ∀ (j : Nat) e, es[j]? = some e → e.length = n) (hh : ∀ (j : Nat) e (i : Nat) x, es[j]? = some e → e[i]? = some x → h a.block (a.off + (j * n + i)) = some (vs j i))
      (hr : ∀ (j : Nat) e (i : Nat) x, es[j]? = some e → e[i]? = some x → RepD h (vs j i) x) : RepD h (.slice (some a) es.length cap) (.sl n es)
theorem RepD.mono {h h' : H} (hh : ∀ b o v, h b o = some v → h' b o = some v) {v : Value} {d : D} (r : RepD h v d) : RepD h' v d := by
  induction r with
  | bool b => exact .bool b
  | int k n => exact .int k n
  | str s => exact .str s
  | nil n => exact .nil n
  | sl0 n => exact .sl0 n
  | sl a cap n es vs ha hc hn h1 _ ih => exact .sl a cap n es vs ha hc hn (fun j e i x h2 h3 => hh _ _ _ (h1 j e i x h2 h3)) ih
def RepDs (h : H) : List D → List Value → Prop
  | [], l => l = []
  | x :: r, l => ∃ v vs, l = v :: vs ∧ RepD h v x ∧ RepDs h r vs
/-- cells from a place on -/
def RepAt (h : H) (b : Nat) : Nat → List D → Prop
  | _, [] => True
  | o, x :: r => (∃ v, h b o = some v ∧ RepD h v x) ∧ RepAt h b (o + 1) r
structure Aux where
  h : H
  ρ : Nat → Nat
  z : Tok → Option (Nat × Nat × Nat)
  /-- blocks that are rows of bytes -/
  u : Nat → Prop
/-- a byte first -/
def hd8 (es : List (List D)) : Prop := ∃ c r, es = [.int .u8 c] :: r
mutual
def RepN (x : Aux) : V → Value → Prop
  | .undef, _ => True
  | .skip, v => v = Go.undef
  | .nilp, v => v = .pointer none
  | .lit b, v => v = .bool b
  | .d d, v => RepD x.h v d
  | .agg ds, v => ∃ cs : Array Value, v = .agg cs ∧ RepDs x.h ds cs.toList
  | .own _ n es, v => RepD x.h v (.sl n es)
  | .box i off, v => v = .pointer (some ⟨x.ρ i, off, none⟩)
  | .ref ds, v => ∃ b off, v = .pointer (some ⟨b, off, none⟩) ∧ RepAt x.h b off ds
  | .fn f us ws, v => ∃ ags bs : Array Value, v = .func (.func f) ags bs ∧ RepNs x us ags.toList ∧ RepNs x ws bs.toList
  | .iface t u, v => ∃ w, v = .iface t w ∧ RepN x u w
  | .tuple us, v => ∃ vs : Array Value, v = .tuple vs ∧ RepNs x us vs.toList
def RepNs (x : Aux) : List V → List Value → Prop
  | [], l => l = []
  | u :: r, l => ∃ v vs, l = v :: vs ∧ RepN x u v ∧ RepNs x r vs
end
/-- a slice that is owned: behind its end there is room that none else sees -/
def RepOwn (x : Aux) (t : Tok) (n : Nat) (es : List (List D)) (v : Value) : Prop :=
  (v = .slice none 0 0 ∧ es = [] ∧ x.z t = none) ∨
  ∃ b cap, v = .slice (some ⟨b, 0, none⟩) es.length cap ∧ x.z t = some (b, es.length * n, cap * n) ∧ RepD x.h v (.sl n es) ∧ (hd8 es → x.u b) ∧ (es = [] → cap = 0)
def RepV (x : Aux) : V → Value → Prop
  | .own t n es, v => RepOwn x t n es v
  | u, v => RepN x u v
def RepVs (x : Aux) : List V → List Value → Prop
  | [], l => l = []
  | u :: r, l => ∃ v vs, l = v :: vs ∧ RepV x u v ∧ RepVs x r vs
theorem RepOwn.repD {x : Aux} {t : Tok} {n : Nat} {es : List (List D)} {v : Value} (r : RepOwn x t n es v) : RepD x.h v (.sl n es) := by
  rcases r with ⟨rfl, rfl, _⟩ | ⟨b, cap, rfl, _, h⟩
  · exact .sl0 n
  · exact h.1
theorem RepV.toN {x : Aux} {u : V} {v : Value} (r : RepV x u v) : RepN x u v := by
  cases u <;> first | exact r | exact (show RepN x (.own _ _ _) v from RepOwn.repD r)
theorem RepN.toV {x : Aux} {u : V} {v : Value} (r : RepN x u v) (h : ∀ t n es, u ≠ .own t n es) : RepV x u v := by
  cases u <;> first | exact r | exact absurd rfl (h _ _ _)
theorem RepDs.mono {h h' : H} (hh : ∀ b o v, h b o = some v → h' b o = some v) : ∀ {ds : List D} {l : List Value}, RepDs h ds l → RepDs h' ds l
  | [], _, r => r
  | _ :: _, _, ⟨v, vs, e, r, q⟩ => ⟨v, vs, e, r.mono hh, q.mono hh⟩
theorem RepAt.mono {h h' : H} (hh : ∀ b o v, h b o = some v → h' b o = some v) {b : Nat} : ∀ {ds : List D} {o : Nat}, RepAt h b o ds → RepAt h' b o ds
  | [], _, _ => trivial
  | _ :: _, _, ⟨⟨v, e, r⟩, q⟩ => ⟨⟨v, hh _ _ _ e, r.mono hh⟩, q.mono hh⟩
mutual
theorem RepN.mono {x x' : Aux} (hh : ∀ b o v, x.h b o = some v → x'.h b o = some v) : ∀ (u : V) (v : Value), (∀ i, hasBox i u = true → x'.ρ i = x.ρ i) → RepN x u v → RepN x' u v
  | .undef, _, _, _ => trivial
  | .skip, _, _, r => r
  | .nilp, _, _, r => r
  | .lit _, _, _, r => r
  | .d _, _, _, r => RepD.mono hh r
  | .agg _, _, _, ⟨cs, e, r⟩ => ⟨cs, e, r.mono hh⟩
  | .own _ _ _, _, _, r => RepD.mono hh r
  | .box i off, _, hρ, r => by
    have := hρ i (by simp [hasBox])
    simp only [RepN] at r ⊢
    rw [this]; exact r
  | .ref _, _, _, ⟨b, o, e, r⟩ => ⟨b, o, e, r.mono hh⟩
  | .fn _ us ws, _, hρ, ⟨ags, bs, e, r, q⟩ => ⟨ags, bs, e, RepNs.mono hh us _ (fun i hi => hρ i (by simp [hasBox, hi])) r, RepNs.mono hh ws _ (fun i hi => hρ i (by simp [hasBox, hi])) q⟩
  | .iface _ u, _, hρ, ⟨w, e, r⟩ => ⟨w, e, RepN.mono hh u w (fun i hi => hρ i (by simpa [hasBox] using hi)) r⟩
  | .tuple us, _, hρ, ⟨vs, e, r⟩ => ⟨vs, e, RepNs.mono hh us _ (fun i hi => hρ i (by simpa [hasBox] using hi)) r⟩
theorem RepNs.mono {x x' : Aux} (hh : ∀ b o v, x.h b o = some v → x'.h b o = some v) : ∀ (us : List V) (l : List Value), (∀ i, hasBoxes i us = true → x'.ρ i = x.ρ i) → RepNs x us l → RepNs x' us l
  | [], _, _, r => r
  | u :: r, _, hρ, ⟨v, vs, e, p, q⟩ => ⟨v, vs, e, RepN.mono hh u v (fun i hi => hρ i (by simp [hasBoxes, hi])) p, RepNs.mono hh r vs (fun i hi => hρ i (by simp [hasBoxes, hi])) q⟩
end
theorem eqTok_iff {a b : Tok} : eqTok a b = true ↔ a = b := by
  obtain ⟨a1, a2⟩ := a; obtain ⟨b1, b2⟩ := b
  simp [eqTok, Nat.beq_eq]
theorem eqTok_false {a b : Tok} : eqTok a b = false ↔ a ≠ b := by
  rw [← Bool.not_eq_true, eqTok_iff]
theorem scrubVs_own (ks : List Tok) (t : Tok) (n : Nat) (es : List (List D)) : (scrubVs ks (.own t n es) = .own t n es ∧ t ∉ ks) ∨ scrubVs ks (.own t n es) = .d (.sl n es) := by
  induction ks with
  | nil => exact .inl ⟨rfl, by simp⟩
  | cons k r ih =>
    have e : scrubVs (k :: r) (.own t n es) = scrubVs r (scrubV k (.own t n es)) := rfl
    rw [e]
    cases h : eqTok t k with
    | true =>
      simp only [scrubV, h]
      have : ∀ r : List Tok, scrubVs r (.d (.sl n es)) = .d (.sl n es) := fun r => by induction r with | nil => rfl | cons _ _ ih => exact ih
      exact .inr (this r)
    | false =>
      simp only [scrubV, h]
      rcases ih with ⟨h1, h2⟩ | h1
      · exact .inl ⟨h1, by simp [h2, eqTok_false.1 h]⟩
      · exact .inr h1
theorem scrubVs_ne (ks : List Tok) (u : V) (h : ∀ t n es, u ≠ .own t n es) : scrubVs ks u = u := by
  induction ks with
  | nil => rfl
  | cons k r ih =>
    have e : scrubV k u = u := by cases u <;> first | rfl | exact absurd rfl (h _ _ _)
    show scrubVs r (scrubV k u) = u
    rw [e]; exact ih
theorem dropVs_cases (l : List Nat) : ∀ u : V, (dropVs l u = u ∧ ∀ i ∈ l, hasBox i u = false) ∨ dropVs l u = .undef := by
  induction l with
  | nil => exact fun u => .inl ⟨rfl, by simp⟩
  | cons k r ih =>
    intro u
    show (dropVs r (dropV k u) = u ∧ _) ∨ dropVs r (dropV k u) = .undef
    cases h : hasBox k u with
    | true =>
      have e : dropV k u = .undef := by simp [dropV, h]
      rw [e]
      rcases ih .undef with h1 | h1
      · exact .inr h1.1
      · exact .inr h1
    | false =>
      have e : dropV k u = u := by simp [dropV, h]
      rw [e]
      rcases ih u with ⟨h1, h2⟩ | h1
      · exact .inl ⟨h1, by simpa [h] using h2⟩
      · exact .inr h1
/-- what is cleaned still stands for what it stood for, behind a change of what ends -/
theorem RepV.clean {x x' : Aux} {scr : List Tok} {drp : List Nat} (hh : ∀ b o v, x.h b o = some v → x'.h b o = some v) (hρ : ∀ i, i ∉ drp → x'.ρ i = x.ρ i) (hz : ∀ t, t ∉ scr → x'.z t = x.z t) (hu : ∀ k, x.u k → x'.u k)
    {u : V} {v : Value} (r : RepV x u v) : RepV x' (cleanV scr drp u) v := by
  unfold cleanV
  rcases dropVs_cases drp (scrubVs scr u) with ⟨h1, h2⟩ | h1
  · rw [h1]
    by_cases ho : ∃ t n es, u = .own t n es
    · obtain ⟨t, n, es, rfl⟩ := ho
      rcases scrubVs_own scr t n es with ⟨e, ht⟩ | e
      · rw [e]
        have r' : RepOwn x t n es v := r
        show RepOwn x' t n es v
        rcases r' with ⟨rfl, rfl, h3⟩ | ⟨b, cap, rfl, h3, h4, h5, h6⟩
        · exact .inl ⟨rfl, rfl, by rw [hz t ht]; exact h3⟩
        · exact .inr ⟨b, cap, rfl, by rw [hz t ht]; exact h3, h4.mono hh, fun h => hu _ (h5 h), h6⟩
      · rw [e]
        exact RepD.mono hh (RepOwn.repD r)
    · have hn : ∀ t n es, u ≠ .own t n es := fun t n es e => ho ⟨t, n, es, e⟩
      rw [scrubVs_ne scr u hn] at h2 ⊢
      refine RepN.toV (RepN.mono hh u v (fun i hi => hρ i (fun hm => ?_)) r.toN) hn
      rw [h2 i hm] at hi; cases hi
  · rw [h1]; trivial
theorem RepVs.clean {x x' : Aux} {scr : List Tok} {drp : List Nat} (hh : ∀ b o v, x.h b o = some v → x'.h b o = some v) (hρ : ∀ i, i ∉ drp → x'.ρ i = x.ρ i) (hz : ∀ t, t ∉ scr → x'.z t = x.z t) (hu : ∀ k, x.u k → x'.u k) :
    ∀ {us : List V} {l : List Value}, RepVs x us l → RepVs x' (cleanVs scr drp us) l
  | [], _, r => r
  | _ :: _, _, ⟨v, vs, e, p, q⟩ => ⟨v, vs, e, p.clean hh hρ hz hu, q.clean hh hρ hz hu⟩
theorem cleanV_nil (u : V) : cleanV [] [] u = u := rfl
theorem cleanVs_nil : ∀ us : List V, cleanVs [] [] us = us
  | [] => rfl
  | u :: r => by rw [cleanVs, cleanVs_nil r]; rfl
theorem RepV.grow {x x' : Aux} (hh : ∀ b o v, x.h b o = some v → x'.h b o = some v) (hρ : x'.ρ = x.ρ) (hz : x'.z = x.z) (hu : ∀ k, x.u k → x'.u k) {u : V} {v : Value} (r : RepV x u v) : RepV x' u v := by
  have := RepV.clean (scr := []) (drp := []) hh (fun i _ => by rw [hρ]) (fun t _ => by rw [hz]) hu r
  rwa [cleanV_nil] at this
theorem RepVs.grow {x x' : Aux} (hh : ∀ b o v, x.h b o = some v → x'.h b o = some v) (hρ : x'.ρ = x.ρ) (hz : x'.z = x.z) (hu : ∀ k, x.u k → x'.u k) {us : List V} {l : List Value} (r : RepVs x us l) : RepVs x' us l := by
  have := RepVs.clean (scr := []) (drp := []) hh (fun i _ => by rw [hρ]) (fun t _ => by rw [hz]) hu r
  rwa [cleanVs_nil] at this

/-! ### force is the identity -/
theorem forceD_eq {α : Type} (x : D) (f : D → α) : forceD x f = f x := by cases x <;> rfl
theorem forceDs_eq {α : Type} : ∀ (xs : List D) (f : List D → α), forceDs xs f = f xs
  | [], _ => rfl
  | x :: r, f => by rw [forceDs, forceD_eq, forceDs_eq r]
theorem forceV0_eq {α : Type} (v : V) (f : V → α) : forceV0 v f = f v := by
  cases v <;> first | rfl | exact forceD_eq _ _ | exact forceDs_eq _ _ | (rename_i b; cases b <;> rfl)
theorem forceVs_eq {α : Type} : ∀ (xs : List V) (f : List V → α), forceVs xs f = f xs
  | [], _ => rfl
  | x :: r, f => by rw [forceVs, forceV0_eq, forceVs_eq r]
theorem forceV_eq {α : Type} (v : V) (f : V → α) : forceV v f = f v := by
  unfold forceV
  split <;> simp only [forceVs_eq, forceV0_eq]
theorem forceBs_eq {α : Type} : ∀ (xs : List (List V)) (f : List (List V) → α), forceBs xs f = f xs
  | [], _ => rfl
  | x :: r, f => by rw [forceBs, forceVs_eq, forceBs_eq r]
theorem forceT_eq {α : Type} : ∀ (xs : Tmps) (f : Tmps → α), forceT xs f = f xs
  | [], _ => rfl
  | (i, x) :: r, f => by rw [forceT, forceV_eq, forceT_eq r]
theorem forceB_eq {α : Type} : ∀ (xs : Boxes) (f : Boxes → α), forceB xs f = f xs
  | [], _ => rfl
  | (i, x) :: r, f => by rw [forceB, forceVs_eq, forceB_eq r]
theorem forceNs_eq {α : Type} : ∀ (xs : List Nat) (f : List Nat → α), forceNs xs f = f xs
  | [], _ => rfl
  | x :: r, f => by rw [forceNs, forceNs_eq r]
theorem getT_clean (scr : List Tok) (drp : List Nat) : ∀ (t : Tmps) (i : Nat), getT (cleanT scr drp t) i = cleanV scr drp (getT t i)
  | [], i => by
    have : ∀ l : List Nat, dropVs l .undef = .undef := fun l => by rcases dropVs_cases l .undef with h | h; exact h.1; exact h
    show V.undef = cleanV scr drp .undef
    unfold cleanV
    rw [scrubVs_ne scr .undef (by simp), this]
  | (j, v) :: r, i => by
    simp only [cleanT, getT]
    cases Nat.beq j i
    · exact getT_clean scr drp r i
    · rfl
theorem getB_clean (scr : List Tok) (drp : List Nat) : ∀ (b : Boxes) (i : Nat), getB (cleanB scr drp b) i = (getB b i).map (cleanVs scr drp)
  | [], i => rfl
  | (j, v) :: r, i => by
    simp only [cleanB, getB]
    cases Nat.beq j i
    · exact getB_clean scr drp r i
    · rfl
theorem getB_cat (wr b : Boxes) (i : Nat) : getB (catB wr b) i = match getB wr i with | some cs => some cs | none => getB b i := by
  induction wr with
  | nil => rfl
  | cons p r ih =>
    obtain ⟨j, v⟩ := p
    simp only [catB, getB]
    cases Nat.beq j i
    · exact ih
    · rfl
theorem getT_put (d : Nat) (v : V) (t : Tmps) (i : Nat) : getT ((d, v) :: t) i = if d = i then v else getT t i := by
  simp only [getT]
  by_cases h : d = i
  · rw [if_pos h, (Nat.beq_eq ▸ h : Nat.beq d i = true)]
  · rw [if_neg h]
    have : Nat.beq d i = false := by rw [← Bool.not_eq_true]; exact fun e => h (Nat.eq_of_beq_eq_true e)
    rw [this]
theorem anyBoxT_get {d : Nat} : ∀ {t : Tmps}, anyBoxT d t = false → ∀ i, hasBox d (getT t i) = false
  | [], _, i => rfl
  | (j, v) :: r, h, i => by
    simp only [anyBoxT] at h
    cases hv : hasBox d v with
    | true => rw [hv] at h; cases h
    | false =>
      rw [hv] at h
      simp only [getT]
      cases Nat.beq j i
      · exact anyBoxT_get h i
      · exact hv
theorem anyBoxB_get {d : Nat} : ∀ {b : Boxes}, anyBoxB d b = false → ∀ i cs, getB b i = some cs → hasBoxes d cs = false
  | [], _, i, cs, h => by cases h
  | (j, v) :: r, h, i, cs, hc => by
    simp only [anyBoxB] at h
    cases hv : hasBoxes d v with
    | true => rw [hv] at h; cases h
    | false =>
      rw [hv] at h
      simp only [getB] at hc
      cases hj : Nat.beq j i <;> rw [hj] at hc
      · exact anyBoxB_get h i cs hc
      · cases hc; exact hv
theorem clean_noBox {d : Nat} {v : V} (h : hasBox d v = false) : cleanV [] [d] v = v := by
  show dropV d v = v
  simp [dropV, h]
theorem cleanVs_noBox {d : Nat} : ∀ {vs : List V}, hasBoxes d vs = false → cleanVs [] [d] vs = vs
  | [], _ => rfl
  | v :: r, h => by
    simp only [hasBoxes, Bool.or_eq_false_iff] at h
    rw [cleanVs, clean_noBox h.1, cleanVs_noBox h.2]
theorem finE_eq {α : Type} (t : Tmps) (b : Boxes) (dst : Option Nat) (v : V) (wr : Boxes) (k : Tmps → Boxes → α) : finE t b dst v wr k = k (putT dst v t) (catB wr b) := by
  unfold finE
  rw [forceV_eq, forceB_eq]
  cases dst <;> rfl
theorem cleanE_eq {α : Type} (t : Tmps) (b : Boxes) (scr : List Tok) (drp : List Nat) (k : Tmps → Boxes → α) : cleanE t b scr drp k = k (cleanT scr drp t) (cleanB scr drp b) := by
  unfold cleanE
  rw [forceT_eq, forceB_eq]
theorem applyE_eq {α : Type} (t : Tmps) (b : Boxes) (dst : Option Nat) (e : Eff) (k : Tmps → Boxes → α) :
    ∃ t1 b1, applyE t b dst e k = k (putT dst e.v t1) (catB e.wr b1) ∧ (∀ i, getT t1 i = cleanV e.scr e.drp (getT t i)) ∧ ∀ i, getB b1 i = (getB b i).map (cleanVs e.scr e.drp) := by
  obtain ⟨ev, ewr, escr, edrp⟩ := e
  have full : ∀ scr drp, (cleanE t b scr drp fun t b => finE t b dst ev ewr k) = applyE t b dst ⟨ev, ewr, escr, edrp⟩ k → scr = escr → drp = edrp → ∃ t1 b1, applyE t b dst ⟨ev, ewr, escr, edrp⟩ k = k (putT dst ev t1) (catB ewr b1) ∧ (∀ i, getT t1 i = cleanV escr edrp (getT t i)) ∧ ∀ i, getB b1 i = (getB b i).map (cleanVs escr edrp) := by
    rintro _ _ h rfl rfl
    exact ⟨_, _, by rw [← h, cleanE_eq, finE_eq], getT_clean _ _ _, getB_clean _ _ _⟩
  cases escr with
  | nil =>
    cases edrp with
    | nil =>
      refine ⟨t, b, finE_eq .., fun i => (cleanV_nil _).symm, fun i => ?_⟩
      cases getB b i with
      | none => rfl
      | some cs => exact congrArg some (cleanVs_nil cs).symm
    | cons d r =>
      cases r with
      | nil =>
        cases h1 : anyBoxT d t with
        | true => exact full [] [d] (by simp [applyE, h1]) rfl rfl
        | false =>
          cases h2 : anyBoxB d b with
          | true => exact full [] [d] (by simp [applyE, h1, h2]) rfl rfl
          | false =>
            refine ⟨t, b, by simp [applyE, h1, h2, finE_eq], fun i => (clean_noBox (anyBoxT_get h1 i)).symm, fun i => ?_⟩
            cases hb : getB b i with
            | none => rfl
            | some cs => exact congrArg some (cleanVs_noBox (anyBoxB_get h2 i cs hb)).symm
      | cons _ _ => exact full _ _ rfl rfl rfl
  | cons _ _ => exact full _ _ rfl rfl rfl
end Go.Proofs.YtaddhpeainliiaaGreatDoor.Id
/-! ## IdealD -/
namespace Go.Proofs.YtaddhpeainliiaaGreatDoor.Id
open Go
set_option linter.unusedSectionVars false
set_option linter.unusedVariables false
set_option linter.unusedSimpArgs false

/-- a pointer stands first -/
def pw : List Value → Bool
  | .pointer _ :: _ => true
  | _ => false
section
variable (I : World → Prop) (B0 : Nat) (M : Nat → Prop)
/-- boxes are blocks of their own, owned slices end in room of their own; M: the blocks that may be written -/
structure WSim (x : Aux) (b : Boxes) (w : World) : Prop where
  inv : I w
  big : ∀ k, M k → B0 ≤ k
  top : ∀ k, w.heap.size ≤ k → M k
  agree : ∀ k o v, x.h k o = some v → w.cell? ⟨k, o, none⟩ = some v
  box : ∀ i cs, getB b i = some cs → M (x.ρ i) ∧ (∀ o, x.h (x.ρ i) o = none) ∧ ∃ ws t, w.heap[x.ρ i]? = some (.cells ws t (0, 0)) ∧ RepVs x cs ws.toList
  inj : ∀ i j cs ds, getB b i = some cs → getB b j = some ds → x.ρ i = x.ρ j → i = j
  zone : ∀ t k s e, x.z t = some (k, s, e) → M k ∧ s ≤ e ∧ (∀ o, s ≤ o → x.h k o = none) ∧ ∃ ws ty, w.heap[k]? = some (.cells ws ty (0, 0)) ∧ ws.size = e
  zinj : ∀ t t' k s e s' e', x.z t = some (k, s, e) → x.z t' = some (k, s', e') → t = t'
  zbox : ∀ t k s e i cs, x.z t = some (k, s, e) → getB b i = some cs → x.ρ i ≠ k
  uu : ∀ k, x.u k → ∃ ws f, w.heap[k]? = some (.cells ws u8t f)
  kt : ∀ i cs, getB b i = some cs → ∀ ws t f, w.heap[x.ρ i]? = some (.cells ws t f) → pw ws.toList = true → kn ws.size t = true
/-- the calls that are deferred while this runs -/
class Ds where
  l : List Deferred
  /-- no region of the code draws its order -/
  nd : Bool
structure Sim [Ds] (nt : Nat) (x : Aux) (t : Tmps) (b : Boxes) (a : Act) (w : World) : Prop where
  tm : ∀ i, RepV x (getT t i) (a.tmps.getD i undef)
  sz : a.tmps.size = nt
  df : a.defers = Ds.l
  ws : WSim I B0 M x b w
/-- what a stretch keeps -/
structure Ext (x : Aux) (w : World) (x' : Aux) (w' : World) : Prop where
  os : w'.os = w.os
  tape : w'.tape = w.tape
  output : w'.output = w.output
  size : w.heap.size ≤ w'.heap.size
  blk : ∀ k, ¬ M k → w'.heap[k]? = w.heap[k]?
  sub : ∀ k o v, x.h k o = some v → x'.h k o = some v
  out : ∀ k, ¬ M k → x'.h k = x.h k
  rho : ∀ i, base ≤ i → x'.ρ i = x.ρ i
  u : ∀ k, x.u k → x'.u k
/-- what is asked of the standing facts -/
def Stable : Prop := ∀ w w' : World, (∀ k, k < B0 → w'.heap[k]? = w.heap[k]?) → w.heap.size ≤ w'.heap.size → I w → I w'
end
section
variable {I : World → Prop} {B0 : Nat} {M : Nat → Prop}
variable [Ds]
theorem Ext.refl (x : Aux) (w : World) : Ext M x w x w := ⟨rfl, rfl, rfl, Nat.le_refl _, fun _ _ => rfl, fun _ _ _ h => h, fun _ _ => rfl, fun _ _ => rfl, fun _ h => h⟩
theorem Ext.trans {x y z : Aux} {u v w : World} (h : Ext M x u y v) (g : Ext M y v z w) : Ext M x u z w :=
  ⟨g.os.trans h.os, g.tape.trans h.tape, g.output.trans h.output, Nat.le_trans h.size g.size, fun k hk => (g.blk k hk).trans (h.blk k hk), fun k o v hv => g.sub k o v (h.sub k o v hv), fun k hk => (g.out k hk).trans (h.out k hk), fun i hi => (g.rho i hi).trans (h.rho i hi), fun k hk => g.u k (h.u k hk)⟩
theorem cell_of_block {w w' : World} {p : Addr} (h : w'.heap[p.block]? = w.heap[p.block]?) : w'.cell? p = w.cell? p := by
  unfold World.cell?; rw [h]
theorem cell_lt {w : World} {p : Addr} {v : Value} (h : w.cell? p = some v) : p.block < w.heap.size := by
  unfold World.cell? at h
  rcases Nat.lt_or_ge p.block w.heap.size with h1 | h1
  · exact h1
  · rw [Array.getElem?_eq_none h1] at h; cases h
theorem heap_lt {w : World} {k : Nat} {o : Obj} (h : w.heap[k]? = some o) : k < w.heap.size := (Array.getElem?_eq_some_iff.1 h).1
theorem WSim.keep {x : Aux} {b : Boxes} {w : World} (S : WSim I B0 M x b w) (hI : Stable I B0) {w' : World} {x' : Aux} (hw : ∀ k, ¬ M k → w'.heap[k]? = w.heap[k]?) (hs : w.heap.size ≤ w'.heap.size) : I w' :=
  hI w w' (fun k hk => hw k (fun hm => by have := S.big k hm; omega)) hs S.inv
/-- the same boxes, told in other words -/
theorem WSim.same {x : Aux} {b b1 : Boxes} {w : World} (S : WSim I B0 M x b w) (h : ∀ i, getB b1 i = getB b i) : WSim I B0 M x b1 w :=
  ⟨S.inv, S.big, S.top, S.agree, fun i cs hc => S.box i cs (by rw [← h]; exact hc), fun i j cs ds hc hd => S.inj i j cs ds (by rw [← h]; exact hc) (by rw [← h]; exact hd), S.zone, S.zinj, fun t k s e i cs hz hc => S.zbox t k s e i cs hz (by rw [← h]; exact hc), S.uu, fun i cs hc => S.kt i cs (by rw [← h]; exact hc)⟩
/-- a draw -/
theorem WSim.drew {x : Aux} {b : Boxes} {w w' : World} (S : WSim I B0 M x b w) (hI : Stable I B0) (h : w'.heap = w.heap) : WSim I B0 M x b w' :=
  ⟨hI w w' (fun k _ => by rw [h]) (by rw [h]; exact Nat.le_refl _) S.inv, S.big, fun k hk => S.top k (by rw [← h]; exact hk), fun k o v hv => by rw [cell_of_block (w := w) (by rw [h])]; exact S.agree k o v hv,
   fun i cs hc => by rw [h]; exact S.box i cs hc, S.inj, fun t k s e hz => by rw [h]; exact S.zone t k s e hz, S.zinj, S.zbox, fun k hk => by rw [h]; exact S.uu k hk, fun i cs hc => by rw [h]; exact S.kt i cs hc⟩
theorem Ext.drew {x : Aux} {w w' : World} (h : w'.heap = w.heap) (h1 : w'.os = w.os) (h2 : w'.tape = w.tape) (h3 : w'.output = w.output) : Ext M x w x w' :=
  ⟨h1, h2, h3, by rw [h]; exact Nat.le_refl _, fun k _ => by rw [h], fun _ _ _ h => h, fun _ _ => rfl, fun _ _ => rfl, fun _ h => h⟩
theorem push_lt {w : World} {o : Obj} {k : Nat} (h : k < w.heap.size) : (w.heap.push o)[k]? = w.heap[k]? := by rw [Array.getElem?_push, if_neg (by omega)]
theorem push_eq {w : World} {o : Obj} : (w.heap.push o)[w.heap.size]? = some o := by rw [Array.getElem?_push, if_pos rfl]
theorem WSim.lt {x : Aux} {b : Boxes} {w : World} (S : WSim I B0 M x b w) {i : Nat} {cs : List V} (h : getB b i = some cs) : x.ρ i < w.heap.size := by
  obtain ⟨_, _, ws, t, hw, _⟩ := S.box i cs h; exact heap_lt hw
theorem WSim.zlt {x : Aux} {b : Boxes} {w : World} (S : WSim I B0 M x b w) {t : Tok} {k s e : Nat} (h : x.z t = some (k, s, e)) : k < w.heap.size := by
  obtain ⟨_, _, _, ws, ty, hw, _⟩ := S.zone t k s e h; exact heap_lt hw
theorem WSim.h_none {x : Aux} {b : Boxes} {w : World} (S : WSim I B0 M x b w) {k : Nat} (h : w.heap.size ≤ k) (o : Nat) : x.h k o = none := by
  cases hv : x.h k o with
  | none => rfl
  | some v => have := cell_lt (S.agree k o v hv); exact absurd this (by simpa using h)
/-- a new block that is nobody's -/
theorem WSim.push {x : Aux} {b : Boxes} {w w' : World} (S : WSim I B0 M x b w) (hI : Stable I B0) {o : Obj} (h : w'.heap = w.heap.push o) : WSim I B0 M x b w' := by
  have hlt : ∀ k, k < w.heap.size → w'.heap[k]? = w.heap[k]? := fun k hk => by rw [h]; exact push_lt hk
  have hs : w.heap.size ≤ w'.heap.size := by rw [h]; simp
  refine ⟨hI w w' (fun k hk => ?_) hs S.inv, S.big, fun k hk => S.top k (by omega), fun k q v hv => ?_, fun i cs hc => ?_, S.inj, fun t k s e hz => ?_, S.zinj, S.zbox, fun k hk => (let ⟨ws, f, h1⟩ := S.uu k hk; ⟨ws, f, by rw [hlt _ (heap_lt h1)]; exact h1⟩), fun i cs hc => by rw [hlt _ (S.lt hc)]; exact S.kt i cs hc⟩
  · rcases Nat.lt_or_ge k w.heap.size with h1 | h1
    · exact hlt k h1
    · exact absurd (S.big k (S.top k h1)) (by have := S.big k (S.top k h1); omega)
  · have hc := S.agree k q v hv
    rw [cell_of_block (w := w) (hlt k (cell_lt hc))]; exact hc
  · rw [hlt _ (S.lt hc)]; exact S.box i cs hc
  · rw [hlt _ (S.zlt hz)]; exact S.zone t k s e hz
theorem Ext.push {x : Aux} {b : Boxes} {w w' : World} (S : WSim I B0 M x b w) {o : Obj} (h : w'.heap = w.heap.push o) (h1 : w'.os = w.os) (h2 : w'.tape = w.tape) (h3 : w'.output = w.output) : Ext M x w x w' :=
  ⟨h1, h2, h3, by rw [h]; simp, fun k hk => by
    rcases Nat.lt_or_ge k w.heap.size with g | g
    · rw [h]; exact push_lt g
    · exact absurd (S.top k g) hk, fun _ _ _ h => h, fun _ _ => rfl, fun _ _ => rfl, fun _ h => h⟩
theorem getB_old {wr b b1 : Boxes} {scr : List Tok} {drp : List Nat} (hb : ∀ i, getB b1 i = (getB b i).map (cleanVs scr drp)) {i : Nat} {cs : List V} (h : getB (catB wr b1) i = some cs) :
    getB wr i = some cs ∨ (getB wr i = none ∧ ∃ c0, getB b i = some c0 ∧ cs = cleanVs scr drp c0) := by
  rw [getB_cat] at h
  cases hw : getB wr i with
  | some c => rw [hw] at h; exact .inl h
  | none =>
    rw [hw] at h
    simp only [hb] at h
    cases hc : getB b i with
    | none => rw [hc] at h; cases h
    | some c0 => rw [hc] at h; exact .inr ⟨rfl, c0, rfl, by simpa using h.symm⟩
/-- a step: boxes written, tokens ended, cells settled -/
theorem WSim.step {x x' : Aux} {b b1 wr : Boxes} {w w' : World} {scr : List Tok} {drp : List Nat} (S : WSim I B0 M x b w) (hI : Stable I B0) (hb : ∀ i, getB b1 i = (getB b i).map (cleanVs scr drp))
    (hsub : ∀ k o v, x.h k o = some v → x'.h k o = some v) (hρ : ∀ i, i ∉ drp → x'.ρ i = x.ρ i) (hz : ∀ t, t ∉ scr → x'.z t = x.z t)
    (hs : w.heap.size ≤ w'.heap.size) (hM : ∀ k, ¬ M k → w'.heap[k]? = w.heap[k]?) (hag : ∀ k o v, x'.h k o = some v → w'.cell? ⟨k, o, none⟩ = some v)
    (hold : ∀ i cs, getB wr i = none → getB b i = some cs → i ∉ drp ∧ w'.heap[x.ρ i]? = w.heap[x.ρ i]? ∧ ∀ o, x'.h (x.ρ i) o = none)
    (hnew : ∀ i cs, getB wr i = some cs → M (x'.ρ i) ∧ (∀ o, x'.h (x'.ρ i) o = none) ∧ ∃ ws t, w'.heap[x'.ρ i]? = some (.cells ws t (0, 0)) ∧ RepVs x' cs ws.toList)
    (hinj : ∀ i j, (getB wr i ≠ none ∨ getB b i ≠ none) → (getB wr j ≠ none ∨ getB b j ≠ none) → x'.ρ i = x'.ρ j → i = j)
    (hzone : ∀ t k s e, x'.z t = some (k, s, e) → M k ∧ s ≤ e ∧ (∀ o, s ≤ o → x'.h k o = none) ∧ ∃ ws ty, w'.heap[k]? = some (.cells ws ty (0, 0)) ∧ ws.size = e)
    (hzinj : ∀ t t' k s e s' e', x'.z t = some (k, s, e) → x'.z t' = some (k, s', e') → t = t')
    (hzbox : ∀ t k s e i, x'.z t = some (k, s, e) → (getB wr i ≠ none ∨ getB b i ≠ none) → x'.ρ i ≠ k)
    (huu : ∀ k, x'.u k → ∃ ws f, w'.heap[k]? = some (.cells ws u8t f)) (hum : ∀ k, x.u k → x'.u k) (hkn : ∀ i cs, getB wr i = some cs → ∀ ws t f, w'.heap[x'.ρ i]? = some (.cells ws t f) → pw ws.toList = true → kn ws.size t = true) : WSim I B0 M x' (catB wr b1) w' := by
  have hsome : ∀ i cs, getB (catB wr b1) i = some cs → getB wr i ≠ none ∨ getB b i ≠ none := fun i cs h => by
    rcases getB_old hb h with h1 | ⟨_, c0, h1, _⟩
    · exact .inl (by rw [h1]; simp)
    · exact .inr (by rw [h1]; simp)
  refine ⟨S.keep hI (x' := x') hM hs, S.big, fun k hk => S.top k (by omega), hag, fun i cs hc => ?_, fun i j cs ds hc hd => hinj i j (hsome i cs hc) (hsome j ds hd), hzone, hzinj, fun t k s e i cs h1 h2 => hzbox t k s e i h1 (hsome i cs h2), huu, fun i cs hc => ?_⟩
  rotate_left
  · rcases getB_old hb hc with h1 | ⟨h1, c0, h2, rfl⟩
    · exact hkn i cs h1
    · obtain ⟨hd, hw, hn⟩ := hold i c0 h1 h2
      rw [hρ i hd, hw]; exact S.kt i c0 h2
  rcases getB_old hb hc with h1 | ⟨h1, c0, h2, rfl⟩
  · exact hnew i cs h1
  · obtain ⟨hd, hw, hn⟩ := hold i c0 h1 h2
    obtain ⟨hm, _, ws, t, hblk, hr⟩ := S.box i c0 h2
    rw [hρ i hd]
    exact ⟨hm, hn, ws, t, by rw [hw]; exact hblk, hr.clean hsub hρ hz hum⟩
/-- behind an effect: the temporaries -/
theorem Sim.eff {nt : Nat} {x x' : Aux} {t t1 : Tmps} {b b' : Boxes} {a : Act} {w w' : World} {scr : List Tok} {drp : List Nat} {dst : Option Nat} {u : V} {v : Value} (S : Sim I B0 M nt x t b a w)
    (ht : ∀ i, getT t1 i = cleanV scr drp (getT t i)) (hsub : ∀ k o v, x.h k o = some v → x'.h k o = some v) (hρ : ∀ i, i ∉ drp → x'.ρ i = x.ρ i) (hz : ∀ t, t ∉ scr → x'.z t = x.z t) (hum : ∀ k, x.u k → x'.u k)
    (hd : ∀ d, dst = some d → d < nt) (hv : dst ≠ none → RepV x' u v) (hw : WSim I B0 M x' b' w') : Sim I B0 M nt x' (putT dst u t1) b' (a.put dst v) w' := by
  have hcl : ∀ i, RepV x' (getT t1 i) (a.tmps.getD i undef) := fun i => by rw [ht]; exact (S.tm i).clean hsub hρ hz hum
  cases dst with
  | none => exact ⟨hcl, S.sz, S.df, hw⟩
  | some d =>
    have hlt : d < a.tmps.size := by rw [S.sz]; exact hd d rfl
    refine ⟨fun i => ?_, by simp [Act.put, S.sz], S.df, hw⟩
    show RepV x' (getT ((d, u) :: t1) i) ((a.tmps.setIfInBounds d v).getD i undef)
    rw [getT_put]
    by_cases h : d = i
    · subst h
      rw [if_pos rfl]
      have : (a.tmps.setIfInBounds d v).getD d undef = v := by simp [hlt]
      rw [this]; exact hv (by simp)
    · rw [if_neg h]
      have : (a.tmps.setIfInBounds d v).getD i undef = a.tmps.getD i undef := by
        simp [Array.getElem?_setIfInBounds_ne h]
      rw [this]; exact hcl i
/-- an operation that makes a value and changes nothing -/
theorem Sim.pure {nt : Nat} {x : Aux} {t t1 : Tmps} {b b1 : Boxes} {a : Act} {w : World} {dst : Option Nat} {u : V} {v : Value} (S : Sim I B0 M nt x t b a w)
    (ht : ∀ i, getT t1 i = cleanV [] [] (getT t i)) (hb : ∀ i, getB b1 i = (getB b i).map (cleanVs [] []))
    (hd : ∀ d, dst = some d → d < nt) (hv : RepV x u v) : Sim I B0 M nt x (putT dst u t1) (catB [] b1) (a.put dst v) w :=
  S.eff ht (fun _ _ _ h => h) (fun _ _ => rfl) (fun _ _ => rfl) (fun _ h => h) hd (fun _ => hv) (S.ws.same (fun i => by
    show getB b1 i = getB b i
    rw [hb]
    cases getB b i with
    | none => rfl
    | some cs => exact congrArg some (cleanVs_nil cs)))
/-- an operand's value -/
theorem Sim.ev {nt : Nat} {x : Aux} {t : Tmps} {b : Boxes} {a : Act} {w : World} (S : Sim I B0 M nt x t b a w) (q : Operand) : RepV x (St.ev ⟨t, b⟩ q) (a.eval q) := by
  cases q with
  | tmp i => exact S.tm i
  | const v =>
    show RepV x (ofConst v) v
    unfold ofConst
    split
    · exact rfl
    · exact rfl
    · exact RepD.int _ _
    · exact RepD.str _
    · exact RepD.nil 0
    · trivial
  | global g => trivial
  | func f => exact ⟨#[], #[], rfl, rfl, rfl⟩
end
end Go.Proofs.YtaddhpeainliiaaGreatDoor.Id
/-! ## IdealE -/
namespace Go.Proofs.YtaddhpeainliiaaGreatDoor.Id
open Go
set_option linter.unusedSectionVars false
set_option linter.unusedVariables false
set_option linter.unusedSimpArgs false

def kindOk : V → Option TypeDesc → Bool
  | .d (.bool _), some .bool | .d (.int _ _), some (.int _) | .d (.str _), some .string => true
  | _, _ => false
def flatOk (P : Program) : List V → List Field → Nat → Bool
  | [], [], _ => true
  | z :: zs, f :: r, i => f.name != "_" && f.offset == i && kindOk z (P.underlying f.type) && flatOk P zs r (i + 1)
  | _, _, _ => false
structure TIok (P : Program) (t : Nat) (ti : TI) : Prop where
  info : ∃ i z, P.info? t = some i ∧ i.size = ti.n ∧ i.zero = some z ∧ ∀ x, RepVs x ti.zero z.cells.toList
  kind : match ti.k with
    | .sc => ∃ d, P.underlying t = some d ∧ d.isRow = false ∧ ti.n = 1 ∧ (∀ k z, ti.zero = [.d (.int k z)] → d = .int k) ∧ (∀ s, ti.zero = [.d (.str s)] → d = .string) ∧ (∀ c, ti.zero = [.d (.bool c)] → d = .bool) ∧ (∀ y, ti.zero = [.d y] → P.concrete t = true)
    | .agg fs => ∃ fields, P.underlying t = some (.struct fields) ∧ fs = fields.toList.map (fun f => (f.offset, f.type)) ∧ (∀ f ∈ fields.toList, P.cellsOf f.type ≠ 0) ∧ (ti.cmp = true → P.stoodInHeld t = false ∧ P.eqGuardType P.depth t = false ∧ flatOk P ti.zero fields.toList 0 = true)
    | .arr e len => P.underlying t = some (.array len e)
    | .sl e n by_ => P.underlying t = some (.slice e) ∧ ti.n = 1 ∧ (∃ i z, P.info? e = some i ∧ i.size = n ∧ i.bytes = by_ ∧ i.zero = some z ∧ z.cells.size = n ∧ 0 < n ∧ 0 < by_) ∧ (ti.cmp = true → P.underlying e = some (.int .u8))
def TTok (P : Program) (tt : TT) : Prop := ∀ t ti, TT.get tt t = some ti → TIok P t ti

section
variable {P : Program} {tt : TT} {X : Given} {α : Type} {n : Nat}
theorem den_leaf {a b : α} (h : DenN P tt X n α (.leaf a) b) : a = b := by cases h; rfl
theorem den_fail {b : α} (h : DenN P tt X n α .fail b) : False := by cases h
theorem den_val {v : V} {r : Res} (h : DenN P tt X n Res (val v) r) : r = (none, { v := v }) := (den_leaf h).symm
theorem den_asrt {p : Prop} {y : T α} {b : α} (h : DenN P tt X n α (.asrt p y) b) : p ∧ DenN P tt X n α y b := by cases h; exact ⟨‹_›, ‹_›⟩
theorem den_ite {c : Bool} {y z : T α} {b : α} (h : DenN P tt X n α (.ite c y z) b) : (c = true ∧ DenN P tt X n α y b) ∨ (c = false ∧ DenN P tt X n α z b) := by
  cases h
  · exact .inl ⟨‹_›, ‹_›⟩
  · exact .inr ⟨‹_›, ‹_›⟩
theorem den_idx {es : List (List D)} {j : Int} {k : List D → T α} {b : α} (h : DenN P tt X n α (.idx es j k) b) : ∃ e, 0 ≤ j ∧ es[j.toNat]? = some e ∧ DenN P tt X n α (k e) b := by
  cases h; exact ⟨_, ‹_›, ‹_›, ‹_›⟩
theorem den_bytes {es : List (List D)} {k : ByteArray → T α} {b : α} (h : DenN P tt X n α (.bytes es k) b) : ∃ bs : List UInt8, es = bs.map byteD ∧ DenN P tt X n α (k ⟨bs.toArray⟩) b := by
  cases h; exact ⟨_, ‹_›, ‹_›⟩
end

section
variable (I : World → Prop) (B0 : Nat) (M : Nat → Prop)
/-- what an effect promises -/
structure EffOK (x : Aux) (b : Boxes) (e : Eff) (w : World) (v : Value) (x' : Aux) (w' : World) : Prop where
  sub : ∀ k o v, x.h k o = some v → x'.h k o = some v
  ρ : ∀ i, i ∉ e.drp → x'.ρ i = x.ρ i
  z : ∀ t, t ∉ e.scr → x'.z t = x.z t
  ws : ∀ b1, (∀ i, getB b1 i = (getB b i).map (cleanVs e.scr e.drp)) → WSim I B0 M x' (catB e.wr b1) w'
  ext : Ext M x w x' w'
  rv : RepV x' e.v v
  u : ∀ k, x.u k → x'.u k
end
def Goes (P : Program) (o : Oper) (a : Act) (w : World) (v : Value) (w' : World) : Prop :=
  (execOp a.eval o).run P w = .ok (.value v) w' ∨ ((execOp a.eval o).run P w = .ok .skip w' ∧ v = undef)
theorem Goes.wp {P : Program} {o : Oper} {a : Act} {w : World} {v : Value} {w' : World} (h : Goes P o a w v w') {K : Act → World → Prop} {Q : Exit → Act → World → Prop} (hK : K (a.put o.dst v) w') : o.wp P a w K Q := by
  unfold Oper.wp
  rcases h with h | ⟨h, rfl⟩
  · rw [h]; exact hK
  · rw [h]; exact hK
section
variable {I : World → Prop} {B0 : Nat} {M : Nat → Prop} {P : Program} {tt : TT} {X : Given} {n nt : Nat} {x : Aux} {t : Tmps} {b : Boxes} {a : Act} {w : World}
variable [Ds]
theorem EffOK.pure (S : Sim I B0 M nt x t b a w) {u : V} {v : Value} (hv : RepV x u v) : EffOK I B0 M x b { v := u } w v x w :=
  ⟨fun _ _ _ h => h, fun _ _ => rfl, fun _ _ => rfl, fun b1 hb => S.ws.same (fun i => by
    show getB b1 i = getB b i
    rw [hb]
    cases getB b i with
    | none => rfl
    | some cs => exact congrArg some (cleanVs_nil cs)), Ext.refl _ _, hv, fun _ h => h⟩
theorem RepV.d {v : Value} {y : D} (r : RepV x (.d y) v) : RepD x.h v y := r
/-- the shapes -/
theorem RepV.int {k : IntKind} {z : Int} {v : Value} (r : RepV x (.d (.int k z)) v) : v = .int k z := by cases (RepV.d r); rfl
theorem RepV.str {s : ByteArray} {v : Value} (r : RepV x (.d (.str s)) v) : v = .string s := by cases (RepV.d r); rfl
theorem RepV.bool {c : Bool} {v : Value} (r : RepV x (.d (.bool c)) v) : v = .bool c := by cases (RepV.d r); rfl
theorem RepV.unlit {u : V} {v : Value} (r : RepV x u v) : RepV x u.unlit v := by
  cases u <;> first | exact r | (have e : v = _ := r; subst e; exact RepD.bool _)
theorem RepN.plainV {u : V} {v : Value} (r : RepN x u v) : RepV x u.plain v := by
  cases u <;> exact r
theorem RepV.plain {u : V} {v : Value} (r : RepV x u v) : RepV x u.plain v := by
  cases u <;> first | exact r | exact RepOwn.repD r
theorem RepD.norm {h : H} {v : Value} {y : D} (r : RepD h v y) : RepD h v y.norm := by
  cases r <;> first | exact .sl0 _ | (constructor <;> assumption)
theorem RepDs.norm {h : H} : ∀ {ds : List D} {l : List Value}, RepDs h ds l → RepDs h (ds.map D.norm) l
  | [], _, r => r
  | _ :: _, _, ⟨v, vs, e, r, q⟩ => ⟨v, vs, e, r.norm, q.norm⟩
theorem RepN.norm {u : V} {v : Value} (r : RepN x u v) : RepN x u.norm v := by
  cases u with
  | d y => cases y <;> first | exact r | exact RepD.norm (RepV.d r)
  | lit c => have e : v = _ := r; subst e; exact RepD.bool _
  | agg ds => obtain ⟨cs, e, q⟩ := r; exact ⟨cs, e, q.norm⟩
  | own _ _ _ => exact r
  | _ => exact r
theorem norm_ne_own (u : V) : ∀ k m es, u.norm ≠ .own k m es := by
  intro k m es h
  cases u with
  | d y => cases y <;> cases h
  | _ => cases h
theorem RepV.norm {u : V} {v : Value} (r : RepV x u v) : RepV x u.norm v := RepN.toV r.toN.norm (norm_ne_own u)
theorem fixnil_rep {u : V} {v : Value} (k : Nat) (r : RepV x u v) : RepV x (fixnil tt k u) v := by
  unfold fixnil
  split
  · split
    · cases (RepV.d r); exact RepD.nil _
    · exact r
  · exact r
theorem RepD.one {h : H} {v : Value} {y : D} (r : RepD h v y) : v.oneCell' = true := by cases r <;> rfl
/-- an operation of the model, against what the ideal one does -/
def OpOK (I : World → Prop) (B0 : Nat) (M : Nat → Prop) (P : Program) (o : Oper) (a : Act) (x : Aux) (b : Boxes) (w : World) (r : Res) : Prop :=
  (r.1 = none → ∃ v x' w', Goes P o a w v w' ∧ EffOK I B0 M x b r.2 w v x' w') ∧
  ∀ u, r.1 = some u → r.2.wr = [] ∧ r.2.scr = [] ∧ r.2.drp = [] ∧ ∃ v, (execOp a.eval o).run P w = .halt (.panic v) w ∧ RepN x u v
theorem OpOK.pure {o : Oper} (S : Sim I B0 M nt x t b a w) {u : V} {v : Value} {r : Res} (h : r = (none, { v := u })) (hr : (execOp a.eval o).run P w = .ok (.value v) w) (hv : RepV x u v) : OpOK I B0 M P o a x b w r := by
  subst h
  exact ⟨fun _ => ⟨v, x, w, .inl hr, EffOK.pure S hv⟩, fun u hu => by cases hu⟩
variable {dst : Option Tmp} {ty : TypeId} {pos : String} {after : Array Edge} {guard : Option (Nat × Bool)} {r : Res}
theorem op_move (S : Sim I B0 M nt x t b a w) (y : Operand) (h : DenN P tt X n Res (opEff tt ⟨dst, .move y, ty, pos, after, guard⟩ (St.ev ⟨t, b⟩) (getB b)) r) : OpOK I B0 M P ⟨dst, .move y, ty, pos, after, guard⟩ a x b w r :=
  OpOK.pure S (den_val h) rfl (fixnil_rep ty (S.ev y))
theorem op_assign (S : Sim I B0 M nt x t b a w) (y : Operand) (h : DenN P tt X n Res (opEff tt ⟨dst, .assign y, ty, pos, after, guard⟩ (St.ev ⟨t, b⟩) (getB b)) r) : OpOK I B0 M P ⟨dst, .assign y, ty, pos, after, guard⟩ a x b w r :=
  OpOK.pure S (den_val h) rfl (fixnil_rep ty (S.ev y))
theorem op_pick (S : Sim I B0 M nt x t b a w) (c y z : Operand) (h : DenN P tt X n Res (opEff tt ⟨dst, .pick c y z, ty, pos, after, guard⟩ (St.ev ⟨t, b⟩) (getB b)) r) : OpOK I B0 M P ⟨dst, .pick c y z, ty, pos, after, guard⟩ a x b w r := by
  have hc := S.ev c
  simp only [opEff] at h
  have go : ∀ q : Bool, a.eval c = .bool q → DenN P tt X n Res (val (St.ev ⟨t, b⟩ (if q then y else z))) r → OpOK I B0 M P ⟨dst, .pick c y z, ty, pos, after, guard⟩ a x b w r := by
    intro q hq hv
    refine OpOK.pure S (v := a.eval (if q then y else z)) (den_val hv) ?_ (S.ev _)
    simp only [execOp, hq, asBool]
    cases q <;> rfl
  split at h
  · rename_i e; rw [e] at hc; exact go true hc h
  · rename_i e; rw [e] at hc; exact go false hc h
  · rename_i q e
    rw [e] at hc
    rcases den_ite h with ⟨rfl, h2⟩ | ⟨rfl, h2⟩
    · exact go true hc.bool h2
    · exact go false hc.bool h2
  · exact (den_fail h).elim
theorem op_nilCheck (S : Sim I B0 M nt x t b a w) (y : Operand) (h : DenN P tt X n Res (opEff tt ⟨dst, .nilCheck y, ty, pos, after, guard⟩ (St.ev ⟨t, b⟩) (getB b)) r) : OpOK I B0 M P ⟨dst, .nilCheck y, ty, pos, after, guard⟩ a x b w r := by
  have hc := S.ev y
  simp only [opEff] at h
  split at h
  · rename_i e; rw [e] at hc
    have hp : a.eval y = _ := hc
    refine OpOK.pure S (v := a.eval y) (den_val h) ?_ hc
    simp only [execOp, hp]; rfl
  · rename_i e; rw [e] at hc
    obtain ⟨bk, of, hp, hq⟩ := hc
    refine OpOK.pure S (v := a.eval y) (den_val h) ?_ ⟨bk, of, hp, hq⟩
    simp only [execOp, hp]; rfl
  · rename_i e; rw [e] at hc
    obtain ⟨ags, bs, hp, hq⟩ := hc
    refine OpOK.pure S (v := a.eval y) (den_val h) ?_ ⟨ags, bs, hp, hq⟩
    simp only [execOp, hp]; rfl
  · exact (den_fail h).elim
theorem op_extract (S : Sim I B0 M nt x t b a w) (y : Operand) (i : Nat) (h : DenN P tt X n Res (opEff tt ⟨dst, .extract y i, ty, pos, after, guard⟩ (St.ev ⟨t, b⟩) (getB b)) r) : OpOK I B0 M P ⟨dst, .extract y i, ty, pos, after, guard⟩ a x b w r := by
  have hc := S.ev y
  simp only [opEff] at h
  split at h
  · rename_i vs e; rw [e] at hc
    obtain ⟨ws, hp, hq⟩ := hc
    have key : ∀ (us : List V) (l : List Value) (i : Nat) u, RepNs x us l → us[i]? = some u → ∃ v, l[i]? = some v ∧ RepN x u v := by
      intro us
      induction us with
      | nil => intro l i u _ hu; cases hu
      | cons u0 us ih =>
        intro l i u hr hu
        obtain ⟨v0, l0, rfl, h1, h2⟩ := hr
        cases i with
        | zero => simp at hu; subst hu; exact ⟨v0, rfl, h1⟩
        | succ i => exact ih l0 i u h2 (by simpa using hu)
    split at h
    · rename_i u hu
      obtain ⟨v, hv, hr⟩ := key vs _ i u hq hu
      have hv' : ws[i]? = some v := by rw [← Array.getElem?_toList]; exact hv
      refine OpOK.pure S (v := v) (den_val h) ?_ hr.plainV
      simp [execOp, hp, Instr.extract, hv']
    · exact (den_fail h).elim
  · exact (den_fail h).elim
theorem den_bind {α β : Type} {n : Nat} {t : T α} {f : α → T β} {r : β} (h : DenN P tt X n β (t.bind f) r) : ∃ a, DenN P tt X n α t a ∧ DenN P tt X n β (f a) r := h.unbind
theorem eqGuard_int (op : BinOp) (t : TypeId) (p q : Operand) (k k' : IntKind) (c d : Int) : (eqGuard op t p q (.int k c) (.int k' d)).run P w = .ok () w := by
  cases op <;> simp [eqGuard, pure, Sem.run]
theorem eqGuard_str (op : BinOp) (t : TypeId) (p q : Operand) (c d : ByteArray) : (eqGuard op t p q (.string c) (.string d)).run P w = .ok () w := by
  cases op <;> simp [eqGuard, pure, Sem.run]
theorem eqGuard_bool (op : BinOp) (t : TypeId) (p q : Operand) (c d : Bool) : (eqGuard op t p q (.bool c) (.bool d)).run P w = .ok () w := by
  cases op <;> simp [eqGuard, pure, Sem.run]
theorem run_guarded {op : BinOp} {t : TypeId} {p q : Operand} {u v : Value} {y : Value} (h : (eqGuard op t p q u v).run P w = .ok () w) (g : (binOp op t u v).run P w = .ok y w) :
    (do eqGuard op t p q u v; binOp op t u v : Sem Value).run P w = .ok y w := by
  rw [Sem.run_bind, h]; exact g
theorem data_eq_iff (c d : ByteArray) : (c.data.toList == d.data.toList) = decide (c = d) := by
  obtain ⟨⟨l⟩⟩ := c; obtain ⟨⟨m⟩⟩ := d
  by_cases h : l = m
  · subst h; simp
  · have h2 : (⟨⟨l⟩⟩ : ByteArray) ≠ ⟨⟨m⟩⟩ := fun e => h (by injection e with e; injection e)
    rw [decide_eq_false h2]; simpa using h
theorem run_evInt (op : BinOp) (tq : TypeId) (k k' : IntKind) (c d : Int) {u : V} (hk : (op = .shl ∨ op = .shr) ∨ k = k') (h : DenN P tt X n V (evInt op k c d) u) : ∃ v, (binOp op tq (.int k c) (.int k' d)).run P w = .ok v w ∧ RepV x u v := by
  have kk : op ≠ .shl → op ≠ .shr → k = k' := fun h1 h2 => hk.resolve_left (fun h => h.elim h1 h2)
  cases op <;> simp only [evInt] at h
  case shl =>
    obtain ⟨h0, h⟩ := den_asrt h; obtain rfl := den_leaf h
    refine ⟨_, ?_, RepD.int _ _⟩
    simp [binOp, Op.shift, show ¬ d < 0 by omega]
  case shr =>
    obtain ⟨h0, h⟩ := den_asrt h; obtain rfl := den_leaf h
    refine ⟨_, ?_, RepD.int _ _⟩
    simp [binOp, Op.shift, show ¬ d < 0 by omega]
  case quo =>
    obtain rfl := kk (by simp) (by simp)
    obtain ⟨h0, h⟩ := den_asrt h; obtain rfl := den_leaf h
    refine ⟨_, ?_, RepD.int _ _⟩
    simp [binOp, Op.intDiv, h0]
  case rem =>
    obtain rfl := kk (by simp) (by simp)
    obtain ⟨h0, h⟩ := den_asrt h; obtain rfl := den_leaf h
    refine ⟨_, ?_, RepD.int _ _⟩
    simp [binOp, Op.intDiv, h0]
  case andNot => exact (den_fail h).elim
  all_goals
    obtain rfl := kk (by simp) (by simp)
    first
    | (obtain rfl := den_leaf h
       refine ⟨_, ?_, by first | exact RepD.int _ _ | exact RepD.bool _⟩
       simp [binOp, Op.intArith, Op.intCmp, Op.intBits]
       done)
    | (obtain rfl := den_leaf h
       refine ⟨_, ?_, by first | exact RepD.int _ _ | exact RepD.bool _⟩
       simp [binOp, Op.intArith, Op.intCmp, Op.intBits]
       first | (rw [Bool.eq_iff_iff]; simp) | skip)
theorem run_evStr (op : BinOp) (tq : TypeId) (c d : ByteArray) {u : V} (h : DenN P tt X n V (evStr op c d) u) : ∃ v, (binOp op tq (.string c) (.string d)).run P w = .ok v w ∧ RepV x u v := by
  cases op <;> simp only [evStr] at h
  case add =>
    obtain ⟨h0, h⟩ := den_asrt h; obtain rfl := den_leaf h
    refine ⟨.string (c ++ d), ?_, RepD.str _⟩
    have : ¬ (((c.size + d.size : Nat) : Int) > IntKind.i64.max) := by
      have e : IntKind.i64.max = 9223372036854775807 := by decide
      rw [e]; omega
    simp only [binOp, Op.stringOp, if_neg this]; rfl
  all_goals first
    | exact (den_fail h).elim
    | (obtain rfl := den_leaf h
       refine ⟨_, ?_, RepD.bool _⟩
       simp only [binOp, Op.stringOp, ByteArray.toList_eq, data_eq_iff]
       rfl)
theorem eqD_rep {h : H} {z : V} {y y' : D} {v v' : Value} {q : Bool} (d : Nat) (ft : TypeId) (r : RepD h v y) (r' : RepD h v' y') (he : eqD z y y' = some q)
    (ht : kindOk z (P.underlying ft) = true) : (Op.equalIn (d + 1) ft v v').run P w = .ok q w := by
  have hud : ∃ ud, P.underlying ft = some ud := by
    cases hu : P.underlying ft with
    | none => rw [hu] at ht; cases z <;> try (cases ht; done)
              rename_i z0; cases z0 <;> cases ht
    | some ud => exact ⟨ud, rfl⟩
  obtain ⟨ud, hu⟩ := hud
  rw [hu] at ht
  cases z with
  | d z0 =>
    cases z0 with
    | bool _ =>
      cases r <;> cases r' <;> simp only [eqD] at he <;> first | (cases he; done) | skip
      cases he
      cases ud <;> first | (cases ht; done) | skip
      exact run_equalIn_bool' w d ft _ _ hu
    | int _ _ =>
      cases r <;> cases r' <;> simp only [eqD] at he <;> first | (cases he; done) | skip
      cases ud <;> first | (cases ht; done) | skip
      split at he
      · rename_i e
        obtain rfl := of_decide_eq_true e
        obtain rfl := Option.some.inj he
        rw [run_equalIn_int w d ft _ _ _ _ hu]; congr 1
      · cases he
    | str _ =>
      cases r <;> cases r' <;> simp only [eqD] at he <;> first | (cases he; done) | skip
      cases he
      cases ud <;> first | (cases ht; done) | skip
      rw [run_equalIn_string w d ft _ _ hu, ByteArray.toList_eq, ByteArray.toList_eq, data_eq_iff]
    | _ => cases r <;> cases r' <;> cases he
  | _ => cases he
theorem eqDs_rep {h : H} (d : Nat) : ∀ (zs : List V) (ds es : List D) (l m : List Value) (q : Bool) (fs : List Field) (xs ys : Array Value) (off : Nat), RepDs h ds l → RepDs h es m → eqDs zs ds es = some q → xs.toList.drop off = l → ys.toList.drop off = m →
    flatOk P zs fs off = true → (Op.eqFields (d + 1) xs ys fs).run P w = .ok q w
  | [], ds, es, l, m, q, fs, xs, ys, off, hr, hq, he, hx, hy, hf => by
    cases fs with
    | nil =>
      have : q = true := by
        cases ds <;> cases es <;> simp [eqDs] at he
        first | exact he.symm | exact he
      subst this
      simp [Op.eqFields]
    | cons _ _ => cases hf
  | z :: zs, [], es, l, m, q, fs, xs, ys, off, hr, hq, he, hx, hy, hf => by cases he
  | z :: zs, _ :: _, [], l, m, q, fs, xs, ys, off, hr, hq, he, hx, hy, hf => by cases he
  | z :: zs, y :: ds, y' :: es, l, m, q, fs, xs, ys, off, hr, hq, he, hx, hy, hf => by
    cases fs with
    | nil => cases hf
    | cons f fs =>
      obtain ⟨v, l, rfl, r1, r2⟩ := hr
      obtain ⟨v', m, rfl, q1, q2⟩ := hq
      simp only [eqDs] at he
      cases h1 : eqD z y y' with
      | none => rw [h1] at he; cases he
      | some c =>
        cases h2 : eqDs zs ds es with
        | none => rw [h1, h2] at he; cases he
        | some c2 =>
          rw [h1, h2] at he
          cases he
          simp only [flatOk, Bool.and_eq_true, bne_iff_ne, beq_iff_eq] at hf
          obtain ⟨⟨⟨hname, hoff⟩, hty⟩, hrest⟩ := hf
          have gx : xs[off]? = some v := by rw [← Array.getElem?_toList]; have := congrArg (·[0]?) hx; simpa using this
          have gy : ys[off]? = some v' := by rw [← Array.getElem?_toList]; have := congrArg (·[0]?) hy; simpa using this
          have dx : xs.toList.drop (off + 1) = l := by have := congrArg List.tail hx; simpa using this
          have dy : ys.toList.drop (off + 1) = m := by have := congrArg List.tail hy; simpa using this
          have ih := eqDs_rep d zs ds es l m c2 fs xs ys (off + 1) r2 q2 h2 dx dy hrest
          have hagg : (Go.isAgg f.type).run P w = .ok false w := by
            have hud : ∃ ud, P.underlying f.type = some ud ∧ ud.isRow = false := by
              cases hu : P.underlying f.type with
              | none => rw [hu] at hty; cases z <;> try (cases hty; done)
                        rename_i z0; cases z0 <;> cases hty
              | some ud =>
                rw [hu] at hty
                refine ⟨ud, rfl, ?_⟩
                cases z <;> try (cases hty; done)
                rename_i z0
                cases z0 <;> cases ud <;> first | rfl | cases hty
            obtain ⟨ud, hu, hrow⟩ := hud
            unfold Go.isAgg
            cases ud <;> first | (cases hrow; done) | simp [run_underlying hu]
          have hpart : ∀ (zs : Array Value) u, zs[off]? = some u → (part f.type zs f.offset).run P w = .ok u w := by
            intro zs u hu
            rw [hoff]
            unfold part
            rw [Sem.run_bind, hagg]
            simp [hu]
          rw [Op.eqFields]
          simp only [if_pos hname, Sem.run_bind, hpart xs v gx, hpart ys v' gy, eqD_rep d f.type r1 q1 h1 hty, Result.andThen_ok]
          cases c
          · simp
          · simpa using ih
theorem op_binOp (htt : TTok P tt) (S : Sim I B0 M nt x t b a w) (op : BinOp) (tq yt : TypeId) (y z : Operand) (h : DenN P tt X n Res (opEff tt ⟨dst, .binOp op tq y z yt, ty, pos, after, guard⟩ (St.ev ⟨t, b⟩) (getB b)) r) : OpOK I B0 M P ⟨dst, .binOp op tq y z yt, ty, pos, after, guard⟩ a x b w r := by
  obtain ⟨u, h1, h2⟩ := den_bind h
  have hy := (S.ev y).unlit
  have hz := (S.ev z).unlit
  have fin : ∀ v, (do eqGuard op tq y z (a.eval y) (a.eval z); binOp op tq (a.eval y) (a.eval z) : Sem Value).run P w = .ok v w → RepV x u v → OpOK I B0 M P ⟨dst, .binOp op tq y z yt, ty, pos, after, guard⟩ a x b w r := by
    intro v hr hv
    refine OpOK.pure S (den_val h2) ?_ hv
    simp only [execOp]
    rw [Sem.run_bind, hr]; rfl
  generalize hvy : a.eval y = vy at *
  generalize hvz : a.eval z = vz at *
  generalize (St.ev ⟨t, b⟩ y).unlit = uy at *
  generalize (St.ev ⟨t, b⟩ z).unlit = uz at *
  unfold evBin at h1
  split at h1
  · obtain rfl := hy.int; obtain rfl := hz.int
    rename_i _ _ k c k' d
    have hk : ((op = .shl ∨ op = .shr) ∨ k = k') → DenN P tt X n V (evInt op k c d) u → OpOK I B0 M P ⟨dst, .binOp op tq y z yt, ty, pos, after, guard⟩ a x b w r := fun hk h1 => by
      obtain ⟨v, g1, g2⟩ := run_evInt (w := w) (x := x) op tq k k' c d hk h1
      exact fin v (run_guarded (eqGuard_int op tq y z _ _ _ _) g1) g2
    split at h1
    · exact hk (.inl (.inl rfl)) h1
    · exact hk (.inl (.inr rfl)) h1
    · split at h1
      · rename_i e; exact hk (.inr (of_decide_eq_true e)) h1
      · exact (den_fail h1).elim
  · obtain rfl := hy.str; obtain rfl := hz.str
    obtain ⟨v, g1, g2⟩ := run_evStr (w := w) (x := x) op tq _ _ h1
    exact fin v (run_guarded (eqGuard_str op tq y z _ _) g1) g2
  · obtain rfl := hy.bool; obtain rfl := hz.bool
    split at h1
    · rename_i e
      obtain ⟨d, hu, _, _, _, _, hb, _⟩ := (htt _ _ e).kind
      obtain rfl := hb _ rfl
      obtain rfl := den_leaf h1
      refine fin _ (run_guarded (eqGuard_bool .eql tq y z _ _) ?_) (RepD.bool _)
      simp [binOp, Op.equal, Op.maxDepth, run_equalIn_bool' w _ tq _ _ hu]
    · rename_i e
      obtain ⟨d, hu, _, _, _, _, hb, _⟩ := (htt _ _ e).kind
      obtain rfl := hb _ rfl
      obtain rfl := den_leaf h1
      refine fin _ (run_guarded (eqGuard_bool .neq tq y z _ _) ?_) (RepD.bool _)
      simp [binOp, Op.equal, Op.maxDepth, run_equalIn_bool' w _ tq _ _ hu]
    · exact (den_fail h1).elim
  · obtain ⟨cs, rfl, q1⟩ := hy
    obtain ⟨ds, rfl, q2⟩ := hz
    split at h1
    · rename_i e
      obtain ⟨fields, hu, _, _, hc⟩ := (htt _ _ e).kind
      obtain ⟨c1, c2, c3⟩ := hc rfl
      have hgd := run_eqGuard_agg (P := P) w op tq y z cs ds c2
      have heq : ∀ q, eqDs _ _ _ = some q → (Op.equalIn 10000 tq (.agg cs) (.agg ds)).run P w = .ok q w := fun q hq => by
        have hf : P.fieldsOf tq = fields := by simp [Program.fieldsOf, hu]
        rw [run_equalIn_struct (P := P) w 9999 tq cs ds (by rw [hf]; exact hu) c1, hf]
        exact eqDs_rep 9998 _ _ _ _ _ q fields.toList cs ds 0 q1 q2 hq (by simp) (by simp) c3
      split at h1
      · rename_i q hq
        obtain rfl := den_leaf h1
        refine fin _ (run_guarded hgd ?_) (RepD.bool _)
        rw [run_eql_struct, heq q hq]; rfl
      · rename_i q hq
        obtain rfl := den_leaf h1
        refine fin _ (run_guarded hgd ?_) (RepD.bool _)
        rw [run_neq_struct, heq q hq]; rfl
      · exact (den_fail h1).elim
    · exact (den_fail h1).elim
  · exact (den_fail h1).elim
theorem op_unOp (S : Sim I B0 M nt x t b a w) (op : UnOp) (tq : TypeId) (y : Operand) (h : DenN P tt X n Res (opEff tt ⟨dst, .unOp op tq y, ty, pos, after, guard⟩ (St.ev ⟨t, b⟩) (getB b)) r) : OpOK I B0 M P ⟨dst, .unOp op tq y, ty, pos, after, guard⟩ a x b w r := by
  obtain ⟨u, h1, h2⟩ := den_bind h
  have hy := (S.ev y).unlit
  unfold evUn at h1
  split at h1
  · rename_i e; rw [e] at hy
    obtain rfl := den_leaf h1
    refine OpOK.pure S (den_val h2) ?_ (RepD.int _ _)
    simp [execOp, hy.int, Op.unary, Op.intArith]
  · rename_i e; rw [e] at hy
    obtain rfl := den_leaf h1
    refine OpOK.pure S (den_val h2) ?_ (RepD.bool _)
    simp [execOp, hy.bool, Op.unary]
  · exact (den_fail h1).elim
end
end Go.Proofs.YtaddhpeainliiaaGreatDoor.Id
/-! ## IdealF -/
namespace Go.Proofs.YtaddhpeainliiaaGreatDoor.Id
open Go
set_option linter.unusedSectionVars false
set_option linter.unusedVariables false
set_option linter.unusedSimpArgs false
section
variable {I : World → Prop} {B0 : Nat} {M : Nat → Prop} {P : Program} {tt : TT} {X : Given} {n nt : Nat} {x : Aux} {t : Tmps} {b : Boxes} {a : Act} {w : World}
variable [Ds]
variable {dst : Option Tmp} {ty : TypeId} {pos : String} {after : Array Edge} {guard : Option (Nat × Bool)} {r : Res}
theorem op_makeInterface (htt : TTok P tt) (S : Sim I B0 M nt x t b a w) (tq : TypeId) (y : Operand) (h : DenN P tt X n Res (opEff tt ⟨dst, .makeInterface tq y, ty, pos, after, guard⟩ (St.ev ⟨t, b⟩) (getB b)) r) : OpOK I B0 M P ⟨dst, .makeInterface tq y, ty, pos, after, guard⟩ a x b w r := by
  have hy := (S.ev y).norm
  simp only [opEff] at h
  split at h
  · rename_i e1 e2; rw [e2] at hy
    obtain ⟨d, _, _, _, _, _, _, hc⟩ := (htt _ _ e1).kind
    refine OpOK.pure S (v := .iface tq (a.eval y)) (den_val h) ?_ ⟨_, rfl, hy⟩
    simp only [execOp]; rw [Sem.run_bind, run_makeInterface w _ _ (hc _ rfl)]; rfl
  · rename_i e1 e2; rw [e2] at hy
    obtain ⟨fields, hu, _⟩ := (htt _ _ e1).kind
    refine OpOK.pure S (v := .iface tq (a.eval y)) (den_val h) ?_ ⟨_, rfl, hy⟩
    simp only [execOp]; rw [Sem.run_bind, run_makeInterface w _ _ (by simp [Program.concrete, hu])]; rfl
  · exact (den_fail h).elim
theorem RepNs.map {l : List Operand} (S : Sim I B0 M nt x t b a w) : RepNs x (l.map fun y => (St.ev ⟨t, b⟩ y).plain) (l.map a.eval) := by
  induction l with
  | nil => rfl
  | cons y l ih => exact ⟨_, _, rfl, ((S.ev y).plain).toN, ih⟩
theorem op_makeFunc (S : Sim I B0 M nt x t b a w) (f : FuncId) (ags bs : Array Operand) (h : DenN P tt X n Res (opEff tt ⟨dst, .makeFunc (.func f) ags bs, ty, pos, after, guard⟩ (St.ev ⟨t, b⟩) (getB b)) r) : OpOK I B0 M P ⟨dst, .makeFunc (.func f) ags bs, ty, pos, after, guard⟩ a x b w r := by
  refine OpOK.pure S (v := .func (.func f) (ags.map a.eval) (bs.map a.eval)) (den_val h) ?_ ⟨_, _, rfl, ?_, ?_⟩
  · simp [execOp, Instr.makeFunc]
  · rw [Array.toList_map]; exact RepNs.map S
  · rw [Array.toList_map]; exact RepNs.map S
theorem slOf_rep {u : V} {v : Value} {m : Nat} {es : List (List D)} (h : slOf u = some (m, es)) (r : RepV x u v) : RepD x.h v (.sl m es) := by
  unfold slOf at h
  split at h
  · cases h; exact RepOwn.repD r
  · cases h; exact r
  · cases h; cases (RepV.d r); exact .sl0 _
  · cases h
theorem RepD.slice {h : H} {v : Value} {m : Nat} {es : List (List D)} (r : RepD h v (.sl m es)) : (v = .slice none 0 0 ∧ es = []) ∨
    ∃ (ad : Addr) (cap : Nat) (vs : Nat → Nat → Value), v = .slice (some ad) es.length cap ∧ (es ≠ [] → ad.spot = none) ∧ es.length ≤ cap ∧ (∀ (j : Nat) e, es[j]? = some e → e.length = m) ∧
      (∀ (j : Nat) e (i : Nat) x, es[j]? = some e → e[i]? = some x → h ad.block (ad.off + (j * m + i)) = some (vs j i)) ∧ ∀ (j : Nat) e (i : Nat) x, es[j]? = some e → e[i]? = some x → RepD h (vs j i) x := by
  cases r with
  | sl0 => exact .inl ⟨rfl, rfl⟩
  | sl ad cap _ _ vs ha hc hn hh hr => exact .inr ⟨ad, cap, vs, rfl, ha, hc, hn, hh, hr⟩
theorem RepAt.of {h : H} {bk : Nat} : ∀ (e : List D) (o : Nat) (vs : Nat → Value), (∀ (i : Nat) y, e[i]? = some y → h bk (o + i) = some (vs i) ∧ RepD h (vs i) y) → RepAt h bk o e
  | [], _, _, _ => trivial
  | y :: e, o, vs, hh => ⟨⟨vs 0, by simpa using hh 0 y rfl⟩, RepAt.of e (o + 1) (fun i => vs (i + 1)) (fun i z hz => by
      have := hh (i + 1) z (by simpa using hz)
      rw [show o + 1 + i = o + (i + 1) by omega]; exact this)⟩
theorem RepAt.drop {h : H} {bk : Nat} : ∀ (e : List D) (o k : Nat), RepAt h bk o e → RepAt h bk (o + k) (e.drop k)
  | [], _, k, _ => by simp [RepAt]
  | _ :: _, o, 0, r => r
  | y :: e, o, k + 1, r => by
    rw [show o + (k + 1) = o + 1 + k by omega]
    exact RepAt.drop e (o + 1) k r.2
theorem add_plain (bk off k : Nat) : (⟨bk, off, none⟩ : Addr).add k = ⟨bk, off + k, none⟩ := Addr.add_mid bk off k
theorem intOf_rep {u : V} {v : Value} {j : Int} (h : intOf u = some j) (r : RepV x u v) : ∃ k, v = .int k j := by
  unfold intOf at h
  split at h
  · cases h; exact ⟨_, r.int⟩
  · cases h
theorem op_indexAddr (htt : TTok P tt) (S : Sim I B0 M nt x t b a w) (tq : TypeId) (y z : Operand) (h : DenN P tt X n Res (opEff tt ⟨dst, .indexAddr tq y z, ty, pos, after, guard⟩ (St.ev ⟨t, b⟩) (getB b)) r) : OpOK I B0 M P ⟨dst, .indexAddr tq y z, ty, pos, after, guard⟩ a x b w r := by
  have hy := S.ev y
  have hz := S.ev z
  simp only [opEff] at h
  split at h
  · rename_i el q by0 n1 zero cmp m es j e1 e2 e3
    obtain ⟨hu, _, ⟨i, zz, hi, hsz, _⟩, _⟩ := (htt _ _ e1).kind
    obtain ⟨k, hk⟩ := intOf_rep e3 hz
    have hr := slOf_rep e2 hy
    obtain ⟨e, h0, h1, h2⟩ := den_idx h
    split at h2
    · rename_i hm
      have hm := Nat.eq_of_beq_eq_true hm
      generalize hv : a.eval y = v at *
      rcases hr.slice with ⟨rfl, rfl⟩ | ⟨⟨bk, off, sp⟩, cap, vs, rfl, ha, hc, hn, hh, hrr⟩
      · simp at h1
      · subst hm
        have hlt := (List.getElem?_eq_some_iff.1 h1).1
        have hsp : sp = none := ha (by intro e0; rw [e0] at hlt; simp at hlt)
        subst hsp
        have hel : P.elem tq = el := by simp [Program.elem, hu]
        refine OpOK.pure S (v := .pointer (some ⟨bk, off + j.toNat * m, none⟩)) (den_val h2) ?_ ⟨bk, _, rfl, RepAt.of e _ (vs j.toNat) (fun q d hq => ⟨?_, hrr _ _ _ _ h1 hq⟩)⟩
        · simp only [execOp, hv, hk]
          rw [Sem.run_bind, run_indexAt_slice (h := by rw [hu]; simp [Program.elem, hu]), if_pos ⟨h0, by omega⟩, hel]
          have hso : (sizeOf el).run P w = .ok m w := by rw [run_sizeOf w hi]; simp [Program.cellsOf, hi, hsz]
          rw [hso]
          simp only [Result.andThen_ok, add_plain]
          rfl
        · rw [Nat.add_assoc]; exact hh _ _ _ _ h1 hq
    · exact (den_fail h2).elim
  · exact (den_fail h).elim
theorem op_fieldAddr (htt : TTok P tt) (S : Sim I B0 M nt x t b a w) (tq : TypeId) (y : Operand) (f : Nat) (h : DenN P tt X n Res (opEff tt ⟨dst, .fieldAddr tq y f, ty, pos, after, guard⟩ (St.ev ⟨t, b⟩) (getB b)) r) : OpOK I B0 M P ⟨dst, .fieldAddr tq y f, ty, pos, after, guard⟩ a x b w r := by
  have hy := S.ev y
  simp only [opEff] at h
  split at h
  · rename_i e1
    obtain ⟨fields, hu, rfl, hne, _⟩ := (htt _ _ e1).kind
    have run : ∀ (fl : Field) bk off, fields[f]? = some fl → (Instr.fieldAt tq (.pointer (some ⟨bk, off, none⟩)) f).run P w = .ok (.pointer (some ⟨bk, off + fl.offset, none⟩)) w := by
      intro fl bk off hf
      have hm : fl ∈ fields.toList := by
        rw [← Array.getElem?_toList] at hf
        exact List.mem_of_getElem? hf
      have h0 := hne fl hm
      cases hq : P.info? fl.type with
      | none => simp [Program.cellsOf, hq] at h0
      | some i =>
        have hsz : i.size ≠ 0 := by simpa [Program.cellsOf, hq] using h0
        simp [Instr.fieldAt, run_underlying hu, hf, Instr.sureAddr, fieldPlace, sizeOf, typeInfo, hq, hsz, add_plain]
    have hfield : ∀ off ft, (fields.toList.map fun q => (q.offset, q.type))[f]? = some (off, ft) → ∃ fl, fields[f]? = some fl ∧ fl.offset = off := by
      intro off ft hq
      rw [List.getElem?_map, Array.getElem?_toList] at hq
      cases hf : fields[f]? with
      | none => rw [hf] at hq; cases hq
      | some fl => rw [hf] at hq; simp at hq; exact ⟨fl, rfl, hq.1⟩
    split at h
    · rename_i off ft i o e2 e3
      rw [e3] at hy
      have hp : a.eval y = _ := hy
      obtain ⟨fl, hf, rfl⟩ := hfield _ _ e2
      refine OpOK.pure S (v := .pointer (some ⟨x.ρ i, o + fl.offset, none⟩)) (den_val h) ?_ rfl
      simp only [execOp, hp]; rw [Sem.run_bind, run fl _ _ hf]; rfl
    · rename_i off ft ds e2 e3
      rw [e3] at hy
      obtain ⟨bk, o, hp, hq⟩ := hy
      obtain ⟨fl, hf, rfl⟩ := hfield _ _ e2
      refine OpOK.pure S (v := .pointer (some ⟨bk, o + fl.offset, none⟩)) (den_val h) ?_ ⟨_, _, rfl, RepAt.drop _ _ _ hq⟩
      simp only [execOp, hp]; rw [Sem.run_bind, run fl _ _ hf]; rfl
    · exact (den_fail h).elim
  · exact (den_fail h).elim
/-! ### loads -/
theorem RepVs.get {us : List V} : ∀ {l : List Value} {i : Nat} {u : V}, RepVs x us l → us[i]? = some u → ∃ v, l[i]? = some v ∧ RepV x u v := by
  induction us with
  | nil => intro l i u _ hu; cases hu
  | cons u0 us ih =>
    intro l i u hr hu
    obtain ⟨v0, l0, rfl, h1, h2⟩ := hr
    cases i with
    | zero => simp at hu; subst hu; exact ⟨v0, rfl, h1⟩
    | succ i => obtain ⟨v, g1, g2⟩ := ih h2 (by simpa using hu : us[i]? = some u); exact ⟨v, by simpa using g1, g2⟩
theorem RepVs.drop {us : List V} : ∀ {l : List Value} (k : Nat), RepVs x us l → RepVs x (us.drop k) (l.drop k) := by
  induction us with
  | nil => intro l k h; have : l = [] := h; subst this; simp [RepVs]
  | cons u us ih =>
    intro l k h
    obtain ⟨v, l0, rfl, h1, h2⟩ := h
    cases k with
    | zero => exact ⟨v, l0, rfl, h1, h2⟩
    | succ k => exact ih k h2
theorem RepVs.length {us : List V} : ∀ {l : List Value}, RepVs x us l → l.length = us.length := by
  induction us with
  | nil => intro l h; have : l = [] := h; subst this; rfl
  | cons u us ih => intro l h; obtain ⟨v, l0, rfl, _, h2⟩ := h; simp [ih h2]
theorem RepDs.length {h : H} {us : List D} : ∀ {l : List Value}, RepDs h us l → l.length = us.length := by
  induction us with
  | nil => intro l h; have : l = [] := h; subst this; rfl
  | cons u us ih => intro l h; obtain ⟨v, l0, rfl, _, h2⟩ := h; simp [ih h2]
theorem toD_rep {u : V} {v : Value} {y : D} (h : u.toD = some y) (r : RepV x u v) : RepD x.h v y := by
  cases u <;> simp only [V.toD] at h <;> first | (cases h; done) | skip
  · cases h; have e : v = _ := r; subst e; exact RepD.bool _
  · cases h; exact r
  · cases h; exact RepOwn.repD r
theorem takeV_rep : ∀ {k : Nat} {us : List V} {l : List Value} {ds : List D}, takeV k us = some ds → RepVs x us l → ds.length = k ∧ RepDs x.h ds (l.take k) ∧ k ≤ l.length
  | 0, us, l, ds, h, r => by cases h; simp [RepDs]
  | k + 1, [], l, ds, h, r => by cases h
  | k + 1, u :: us, l, ds, h, r => by
    obtain ⟨v, l0, rfl, r1, r2⟩ := r
    simp only [takeV] at h
    cases h1 : u.toD with
    | none => rw [h1] at h; cases h
    | some y =>
      cases h2 : takeV k us with
      | none => rw [h1, h2] at h; cases h
      | some ys =>
        rw [h1, h2] at h
        cases h
        obtain ⟨g1, g2, g3⟩ := takeV_rep h2 r2
        exact ⟨by simp [g1], ⟨v, l0.take k, rfl, toD_rep h1 r1, g2⟩, by simp; omega⟩
theorem takeD_rep {h : H} {bk : Nat} : ∀ {k : Nat} {us ds : List D} {o : Nat}, takeD k us = some ds → RepAt h bk o us → ds.length = k ∧ ∃ vs : List Value, vs.length = k ∧ RepDs h ds vs ∧ ∀ (j : Nat) v, vs[j]? = some v → h bk (o + j) = some v
  | 0, us, ds, o, e, r => by cases e; exact ⟨rfl, [], rfl, rfl, fun j v hv => by cases hv⟩
  | k + 1, [], ds, o, e, r => by cases e
  | k + 1, u :: us, ds, o, e, r => by
    obtain ⟨⟨v, hv, hr⟩, r2⟩ := r
    simp only [takeD] at e
    cases h2 : takeD k us with
    | none => rw [h2] at e; cases e
    | some ys =>
      rw [h2] at e
      cases e
      obtain ⟨g1, vs, g2, g3, g4⟩ := takeD_rep h2 r2
      refine ⟨by simp [g1], v :: vs, by simp [g2], ⟨v, vs, rfl, hr, g3⟩, fun j u hu => ?_⟩
      cases j with
      | zero => simp at hu; subst hu; exact hv
      | succ j => rw [show o + (j + 1) = o + 1 + j by omega]; exact g4 j u (by simpa using hu)
theorem isRow_of {ti : TI} {tq : Nat} (h : TIok P tq ti) (hk : isAgg ti.k = true) : ∃ d, P.underlying tq = some d ∧ d.isRow = true := by
  have := h.kind
  cases hq : ti.k with
  | sc => rw [hq] at hk; cases hk
  | sl _ _ _ => rw [hq] at hk; cases hk
  | agg fs => rw [hq] at this; obtain ⟨fields, hu, _⟩ := this; exact ⟨_, hu, rfl⟩
  | arr e len => rw [hq] at this; exact ⟨_, this, rfl⟩
theorem notRow_of {ti : TI} {tq : Nat} (h : TIok P tq ti) (hk : isAgg ti.k = false) : ∃ d, P.underlying tq = some d ∧ d.isRow = false ∧ ti.n = 1 := by
  have := h.kind
  cases hq : ti.k with
  | sc => rw [hq] at this; obtain ⟨d, hu, hr, hn, _⟩ := this; exact ⟨d, hu, hr, hn⟩
  | sl _ _ _ => rw [hq] at this; exact ⟨_, this.1, rfl, this.2.1⟩
  | agg fs => rw [hq] at hk; cases hk
  | arr e len => rw [hq] at hk; cases hk
theorem isAgg_run {tq : Nat} {d : TypeDesc} (h : P.underlying tq = some d) : (Go.isAgg tq).run P w = .ok d.isRow w := by
  unfold Go.isAgg
  rw [Sem.run_bind, run_underlying h w]
  cases d <;> rfl
theorem run_load_one {tq : Nat} {d : TypeDesc} {bk o : Nat} {v : Value} (h : P.underlying tq = some d) (hd : d.isRow = false) (hc : w.cell? ⟨bk, o, none⟩ = some v) : (Instr.loadAt tq (.pointer (some ⟨bk, o, none⟩))).run P w = .ok v w := by
  simp only [Instr.loadAt, Instr.sureAddr, loadVar]
  rw [Sem.run_bind]
  show Result.andThen (.ok _ w) _ = _
  rw [Result.andThen_ok, Sem.run_bind, isAgg_run h, hd]
  simp [load, Sem.run, hc]
theorem run_load_row {tq : Nat} {d : TypeDesc} {bk o : Nat} {cs : List Value} (h : P.underlying tq = some d) (hd : d.isRow = true) (hi : (P.info? tq).map (·.size) = some cs.length) (hc : w.rangeAt bk o cs) : (Instr.loadAt tq (.pointer (some ⟨bk, o, none⟩))).run P w = .ok (.agg cs.toArray) w := by
  simp only [Instr.loadAt, Instr.sureAddr]
  rw [Sem.run_bind]
  show Result.andThen (.ok _ w) _ = _
  rw [Result.andThen_ok]
  exact run_loadVar_mid w bk o tq cs d hc h hd hi
theorem info_size {ti : TI} {tq : Nat} (h : TIok P tq ti) : (P.info? tq).map (·.size) = some ti.n := by
  obtain ⟨i, z, hi, hs, _⟩ := h.info
  simp [hi, hs]
theorem loadV_rep (htt : TTok P tt) (S : WSim I B0 M x b w) {tq : Nat} {ti : TI} {i off : Nat} {cs : List V} {u : V} (ht : TT.get tt tq = some ti) (hb : getB b i = some cs) (h : loadV ti (cs.drop off) = some u) :
    ∃ v, (Instr.loadAt tq (.pointer (some ⟨x.ρ i, off, none⟩))).run P w = .ok v w ∧ RepV x u v := by
  obtain ⟨_, _, ws, wt, hw, hr⟩ := S.box i cs hb
  have hcell : ∀ (j : Nat) v, (ws.toList.drop off)[j]? = some v → w.cell? ⟨x.ρ i, off + j, none⟩ = some v := fun j v hv => by
    rw [List.getElem?_drop, Array.getElem?_toList] at hv
    simp [World.cell?, hw, hv]
  have hrd := hr.drop off
  cases hk : isAgg ti.k with
  | true =>
    obtain ⟨d, hu, hd⟩ := isRow_of (htt _ _ ht) hk
    have h' : ∃ ds, takeV ti.n (cs.drop off) = some ds ∧ u = .agg ds := by
      unfold loadV at h
      cases hq : ti.k <;> rw [hq] at hk h <;> first | (cases hk; done) | skip
      all_goals
        simp only at h
        cases hv : takeV ti.n (cs.drop off) with
        | none => rw [hv] at h; cases h
        | some ds => rw [hv] at h; cases h; exact ⟨ds, rfl, rfl⟩
    obtain ⟨ds, h1, rfl⟩ := h'
    obtain ⟨g1, g2, g3⟩ := takeV_rep h1 hrd
    refine ⟨.agg ((ws.toList.drop off).take ti.n).toArray, run_load_row hu hd ?_ (fun j v hv => ?_), ⟨_, rfl, by simpa using g2⟩⟩
    · rw [info_size (htt _ _ ht), List.length_take, Nat.min_eq_left g3]
    · refine hcell j v ?_
      rw [List.getElem?_take] at hv
      split at hv
      · exact hv
      · cases hv
  | false =>
    obtain ⟨d, hu, hd, _⟩ := notRow_of (htt _ _ ht) hk
    have h' : ∃ r, cs.drop off = u :: r := by
      unfold loadV at h
      cases hq : ti.k <;> rw [hq] at hk h <;> first | (cases hk; done) | skip
      all_goals
        simp only at h
        cases hv : cs.drop off with
        | nil => rw [hv] at h; cases h
        | cons y r => rw [hv] at h; cases h; exact ⟨r, rfl⟩
    obtain ⟨rest, h1⟩ := h'
    rw [h1] at hrd
    obtain ⟨v, l0, hv, r1, _⟩ := hrd
    exact ⟨v, run_load_one hu hd (hcell 0 v (by rw [hv]; rfl)), r1⟩
theorem loadD_rep (htt : TTok P tt) (S : WSim I B0 M x b w) {tq : Nat} {ti : TI} {bk off : Nat} {cs : List D} {u : V} (ht : TT.get tt tq = some ti) (hb : RepAt x.h bk off cs) (h : loadD ti cs = some u) :
    ∃ v, (Instr.loadAt tq (.pointer (some ⟨bk, off, none⟩))).run P w = .ok v w ∧ RepV x u v := by
  cases hk : isAgg ti.k with
  | true =>
    obtain ⟨d, hu, hd⟩ := isRow_of (htt _ _ ht) hk
    have h' : ∃ ds, takeD ti.n cs = some ds ∧ u = .agg ds := by
      unfold loadD at h
      cases hq : ti.k <;> rw [hq] at hk h <;> first | (cases hk; done) | skip
      all_goals
        simp only at h
        cases hv : takeD ti.n cs with
        | none => rw [hv] at h; cases h
        | some ds => rw [hv] at h; cases h; exact ⟨ds, rfl, rfl⟩
    obtain ⟨ds, h1, rfl⟩ := h'
    obtain ⟨g1, vs, g2, g3, g4⟩ := takeD_rep h1 hb
    refine ⟨.agg vs.toArray, run_load_row hu hd ?_ (fun j v hv => S.agree _ _ _ (g4 j v hv)), ⟨_, rfl, by simpa using g3⟩⟩
    rw [info_size (htt _ _ ht), g2]
  | false =>
    obtain ⟨d, hu, hd, _⟩ := notRow_of (htt _ _ ht) hk
    have h' : ∃ y r, cs = y :: r ∧ u = .d y := by
      unfold loadD at h
      cases hq : ti.k <;> rw [hq] at hk h <;> first | (cases hk; done) | skip
      all_goals
        simp only at h
        cases cs with
        | nil => cases h
        | cons y r => cases h; exact ⟨y, r, rfl, rfl⟩
    obtain ⟨y, rest, rfl, rfl⟩ := h'
    obtain ⟨⟨v, hv, hr⟩, _⟩ := hb
    exact ⟨v, run_load_one hu hd (S.agree _ _ _ hv), hr⟩
theorem op_load (htt : TTok P tt) (S : Sim I B0 M nt x t b a w) (tq : TypeId) (y : Operand) (h : DenN P tt X n Res (opEff tt ⟨dst, .load tq y, ty, pos, after, guard⟩ (St.ev ⟨t, b⟩) (getB b)) r) : OpOK I B0 M P ⟨dst, .load tq y, ty, pos, after, guard⟩ a x b w r := by
  have hy := S.ev y
  simp only [opEff] at h
  have fin : ∀ u v, (Instr.loadAt tq (a.eval y)).run P w = .ok v w → RepV x u v → DenN P tt X n Res (val u) r → OpOK I B0 M P ⟨dst, .load tq y, ty, pos, after, guard⟩ a x b w r := by
    intro u v h1 h2 h3
    refine OpOK.pure S (den_val h3) ?_ h2
    simp only [execOp]; rw [Sem.run_bind, h1]; rfl
  split at h
  · rename_i ti i off e1 e2
    rw [e2] at hy
    have hp : a.eval y = _ := hy
    split at h
    · rename_i cs e3
      split at h
      · rename_i u e4
        obtain ⟨v, g1, g2⟩ := loadV_rep htt S.ws e1 e3 e4
        exact fin u v (by rw [hp]; exact g1) g2 h
      · exact (den_fail h).elim
    · exact (den_fail h).elim
  · rename_i ti ds e1 e2
    rw [e2] at hy
    obtain ⟨bk, off, hp, hq⟩ := hy
    split at h
    · rename_i u e4
      obtain ⟨v, g1, g2⟩ := loadD_rep htt S.ws e1 hq e4
      exact fin u v (by rw [hp]; exact g1) g2 h
    · exact (den_fail h).elim
  · exact (den_fail h).elim
theorem RepDs.get {h : H} {us : List D} : ∀ {l : List Value} {i : Nat} {u : D}, RepDs h us l → us[i]? = some u → ∃ v, l[i]? = some v ∧ RepD h v u := by
  induction us with
  | nil => intro l i u _ hu; cases hu
  | cons u0 us ih =>
    intro l i u hr hu
    obtain ⟨v0, l0, rfl, h1, h2⟩ := hr
    cases i with
    | zero => simp at hu; subst hu; exact ⟨v0, rfl, h1⟩
    | succ i => obtain ⟨v, g1, g2⟩ := ih h2 (by simpa using hu : us[i]? = some u); exact ⟨v, by simpa using g1, g2⟩
theorem RepDs.drop {h : H} {us : List D} : ∀ {l : List Value} (k : Nat), RepDs h us l → RepDs h (us.drop k) (l.drop k) := by
  induction us with
  | nil => intro l k h; have : l = [] := h; subst this; simp [RepDs]
  | cons u us ih =>
    intro l k h
    obtain ⟨v, l0, rfl, h1, h2⟩ := h
    cases k with
    | zero => exact ⟨v, l0, rfl, h1, h2⟩
    | succ k => exact ih k h2
theorem takeD_reps {h : H} : ∀ {k : Nat} {us ds : List D} {l : List Value}, takeD k us = some ds → RepDs h us l → ds.length = k ∧ RepDs h ds (l.take k) ∧ k ≤ l.length
  | 0, us, ds, l, e, r => by cases e; simp [RepDs]
  | k + 1, [], ds, l, e, r => by cases e
  | k + 1, u :: us, ds, l, e, r => by
    obtain ⟨v, l0, rfl, r1, r2⟩ := r
    simp only [takeD] at e
    cases h2 : takeD k us with
    | none => rw [h2] at e; cases e
    | some ys =>
      rw [h2] at e
      cases e
      obtain ⟨g1, g2, g3⟩ := takeD_reps h2 r2
      exact ⟨by simp [g1], ⟨v, l0.take k, rfl, r1, g2⟩, by simp; omega⟩
/-- a part of a struct's cells -/
theorem part_rep (htt : TTok P tt) {tq : Nat} {ti : TI} {off : Nat} {cs : List D} {u : V} {vs : Array Value} {h : H} (ht : TT.get tt tq = some ti) (hb : RepDs h cs vs.toList) (e : loadD ti (cs.drop off) = some u) (hx : x.h = h) :
    ∃ v, (part tq vs off).run P w = .ok v w ∧ RepV x u v := by
  subst hx
  have hrd := hb.drop off
  unfold part
  rw [Sem.run_bind]
  cases hk : isAgg ti.k with
  | true =>
    obtain ⟨d, hu, hd⟩ := isRow_of (htt _ _ ht) hk
    have h' : ∃ ds, takeD ti.n (cs.drop off) = some ds ∧ u = .agg ds := by
      unfold loadD at e
      cases hq : ti.k <;> rw [hq] at hk e <;> first | (cases hk; done) | skip
      all_goals
        simp only at e
        cases hv : takeD ti.n (cs.drop off) with
        | none => rw [hv] at e; cases e
        | some ds => rw [hv] at e; cases e; exact ⟨ds, rfl, rfl⟩
    obtain ⟨ds, h1, rfl⟩ := h'
    obtain ⟨g1, g2, g3⟩ := takeD_reps h1 hrd
    obtain ⟨i, z, hi, hs, _⟩ := (htt _ _ ht).info
    refine ⟨.agg (vs.extract off (off + ti.n)), ?_, ⟨_, rfl, ?_⟩⟩
    · rw [isAgg_run hu, hd]
      simp [sizeOf, typeInfo, hi, hs]
    · rw [Array.toList_extract, List.extract_eq_take_drop]
      rwa [show off + ti.n - off = ti.n by omega]
  | false =>
    obtain ⟨d, hu, hd, _⟩ := notRow_of (htt _ _ ht) hk
    have h' : ∃ y r, cs.drop off = y :: r ∧ u = .d y := by
      unfold loadD at e
      cases hq : ti.k <;> rw [hq] at hk e <;> first | (cases hk; done) | skip
      all_goals
        simp only at e
        cases hv : cs.drop off with
        | nil => rw [hv] at e; cases e
        | cons y r => rw [hv] at e; cases e; exact ⟨y, r, rfl, rfl⟩
    obtain ⟨y, rest, h1, rfl⟩ := h'
    rw [h1] at hrd
    obtain ⟨v, l0, hv, r1, _⟩ := hrd
    refine ⟨v, ?_, r1⟩
    have hv' : vs[off]? = some v := by
      rw [← Array.getElem?_toList]
      have := congrArg (·[0]?) hv
      simpa using this
    rw [isAgg_run hu, hd]
    simp [hv']
theorem op_field (htt : TTok P tt) (S : Sim I B0 M nt x t b a w) (tq : TypeId) (y : Operand) (f : Nat) (h : DenN P tt X n Res (opEff tt ⟨dst, .field tq y f, ty, pos, after, guard⟩ (St.ev ⟨t, b⟩) (getB b)) r) : OpOK I B0 M P ⟨dst, .field tq y f, ty, pos, after, guard⟩ a x b w r := by
  have hy := S.ev y
  simp only [opEff] at h
  split at h
  · rename_i e1 e2
    rw [e2] at hy
    obtain ⟨vs, hp, hq⟩ := hy
    obtain ⟨fields, hu, rfl, _, _⟩ := (htt _ _ e1).kind
    split at h
    · rename_i off ft e3
      rw [List.getElem?_map, Array.getElem?_toList] at e3
      cases hf : fields[f]? with
      | none => rw [hf] at e3; cases e3
      | some fl =>
        rw [hf] at e3
        simp only [Option.map_some, Option.some.injEq, Prod.mk.injEq] at e3
        obtain ⟨rfl, rfl⟩ := e3
        split at h
        · rename_i ti e4
          split at h
          · rename_i u e5
            obtain ⟨v, g1, g2⟩ := part_rep (w := w) (x := x) htt e4 hq e5 rfl
            refine OpOK.pure S (den_val h) ?_ g2
            simp only [execOp, hp]
            rw [Sem.run_bind]
            have : (Instr.field tq (.agg vs) f).run P w = .ok v w := by
              simp [Instr.field, run_underlying hu, hf, asAgg, g1]
            rw [this]; rfl
          · exact (den_fail h).elim
        · exact (den_fail h).elim
    · exact (den_fail h).elim
  · exact (den_fail h).elim
theorem bt_get (s : ByteArray) (j : Int) (h0 : 0 ≤ j) (h1 : j < s.size) : (s[j.toNat]?).map (fun c => (c.toNat : Int)) = some (bt s j) := by
  unfold bt
  have : j.toNat < s.size := by omega
  rw [dif_pos this, ByteArray.getElem?_lt' s _ this]
  rfl
theorem op_index (htt : TTok P tt) (S : Sim I B0 M nt x t b a w) (tq : TypeId) (y z : Operand) (h : DenN P tt X n Res (opEff tt ⟨dst, .index tq y z, ty, pos, after, guard⟩ (St.ev ⟨t, b⟩) (getB b)) r) : OpOK I B0 M P ⟨dst, .index tq y z, ty, pos, after, guard⟩ a x b w r := by
  have hy := S.ev y
  have hz := S.ev z
  simp only [opEff] at h
  split at h
  · rename_i n1 q cmp s j e1 e2 e3
    rw [e2] at hy
    obtain ⟨k, hk⟩ := intOf_rep e3 hz
    obtain ⟨d, hu, _, _, _, hs, _⟩ := (htt _ _ e1).kind
    obtain rfl := hs _ rfl
    obtain ⟨⟨h0, h1⟩, h2⟩ := den_asrt h
    refine OpOK.pure S (v := .int .u8 (bt s j)) (den_val h2) ?_ (RepD.int _ _)
    have hlt : j.toNat < s.size := by omega
    have hg : s[j.toNat]? = some s[j.toNat] := ByteArray.getElem?_lt' s _ hlt
    have hb : bt s j = (s[j.toNat].toNat : Int) := by unfold bt; rw [dif_pos hlt]
    have : (Instr.index tq (.string s) (.int k j)).run P w = .ok (.int .u8 (bt s j)) w := by
      simp [Instr.index, asIntOf, run_underlying hu, h0, hg, hb]
    simp only [execOp, hy.str, hk]
    rw [Sem.run_bind, this]; rfl
  · rename_i e len n1 zero cmp xs j e1 e2 e3
    rw [e2] at hy
    obtain ⟨cs, hp, hq⟩ := hy
    obtain ⟨k, hk⟩ := intOf_rep e3 hz
    have hu : P.underlying tq = some (.array len e) := (htt _ _ e1).kind
    split at h
    · rename_i zt ct e4
      obtain ⟨c, h0, h1, h2⟩ := den_idx h
      split at h2
      · rename_i y0 e5
        rw [List.getElem?_map] at h1
        cases hx : xs[j.toNat]? with
        | none => rw [hx] at h1; cases h1
        | some y1 =>
          rw [hx] at h1
          simp only [Option.map_some, Option.some.injEq, List.cons.injEq, and_true] at h1
          subst h1
          obtain ⟨v, hv, hr⟩ := hq.get hx
          have hv' : cs[j.toNat]? = some v := by rw [← Array.getElem?_toList]; exact hv
          have hlt : j.toNat < xs.length := (List.getElem?_eq_some_iff.1 hx).1
          have hle := Nat.eq_of_beq_eq_true e5
          obtain ⟨d, hue, hrow, _⟩ := notRow_of (htt _ _ e4) rfl
          obtain ⟨i, zz, hi, hs, _⟩ := (htt _ _ e4).info
          refine OpOK.pure S (v := v) (den_val h2) ?_ hr
          have hj : (if 0 ≤ j ∧ j < (len : Int) then True else False) := by rw [if_pos ⟨h0, by omega⟩]; trivial
          have : (Instr.index tq (.agg cs) (.int k j)).run P w = .ok v w := by
            have hpart : (part e cs (j.toNat * i.size)).run P w = .ok v w := by
              unfold part
              rw [Sem.run_bind, isAgg_run hue, hrow]
              have hs1 : i.size = 1 := hs
              simp [hs1, hv']
            simp only [Instr.index, asIntOf]
            simp [run_underlying hu, h0, show j < (len : Int) by omega, sizeOf, typeInfo, hi, hpart]
          simp only [execOp, hp, hk]
          rw [Sem.run_bind, this]; rfl
      · exact (den_fail h2).elim
    · exact (den_fail h).elim
  · exact (den_fail h).elim
end
end Go.Proofs.YtaddhpeainliiaaGreatDoor.Id
/-! ## IdealG -/
namespace Go.Proofs.YtaddhpeainliiaaGreatDoor.Id
open Go
set_option linter.unusedSectionVars false
set_option linter.unusedVariables false
set_option linter.unusedSimpArgs false
section
variable {I : World → Prop} {B0 : Nat} {M : Nat → Prop} {P : Program} {tt : TT} {X : Given} {n nt : Nat} {x : Aux} {t : Tmps} {b : Boxes} {a : Act} {w : World}
variable [Ds]
variable {dst : Option Tmp} {ty : TypeId} {pos : String} {after : Array Edge} {guard : Option (Nat × Bool)} {r : Res}
theorem optInt_rep (S : Sim I B0 M nt x t b a w) {o : Option Operand} {l : Option Int} (h : optInt (St.ev ⟨t, b⟩) o = some l) : (o = none ∧ l = none) ∨ ∃ y k j, o = some y ∧ l = some j ∧ a.eval y = .int k j := by
  unfold optInt at h
  split at h
  · cases h; exact .inl ⟨rfl, rfl⟩
  · rename_i y
    split at h
    · rename_i j e
      cases h
      obtain ⟨k, hk⟩ := intOf_rep e (S.ev y)
      exact .inr ⟨y, k, j, rfl, rfl, hk⟩
    · cases h
theorem run_sliceBounds (isS : Bool) (len cap : Nat) (lo hi : Option Value) (l h : Int) (hlo : (lo = none ∧ l = 0) ∨ ∃ k, lo = some (.int k l)) (hhi : (hi = none ∧ h = len) ∨ ∃ k, hi = some (.int k h))
    (h0 : 0 ≤ l) (h1 : l ≤ h) (h2 : h ≤ len) (h3 : len ≤ cap) : (Instr.sliceBounds isS len cap lo hi none).run P w = .ok (l.toNat, h.toNat, cap) w := by
  unfold Instr.sliceBounds
  have b1 : ∀ (k : IntKind) code, (Instr.sliceBound (.int k h) cap code).run P w = .ok h.toNat w := fun k code => by
    rw [run_sliceBound _ _ _ _ _ (by omega) (by omega)]
  have b2 : ∀ (k : IntKind) code, (Instr.sliceBound (.int k l) h.toNat code).run P w = .ok l.toNat w := fun k code => by
    rw [run_sliceBound _ _ _ _ _ (by omega) (by omega)]
  rcases hhi with ⟨rfl, rfl⟩ | ⟨k, rfl⟩ <;> rcases hlo with ⟨rfl, rfl⟩ | ⟨k', rfl⟩
  · simp
  · have := b2 k' .sliceB
    simp only [Int.toNat_natCast] at this
    simp [this]
  · simp [b1]
  · simp [b1, b2]
theorem RepD.sub {h : H} {v : Value} {m : Nat} {es : List (List D)} (r : RepD h v (.sl m es)) : (v = .slice none 0 0 ∧ es = []) ∨ ∃ (ad : Addr) (cap : Nat), v = .slice (some ad) es.length cap ∧ es.length ≤ cap ∧
    ∀ (l k : Nat), l ≤ k → k ≤ es.length → ∀ (sz cap' : Nat), (l ≠ k → sz = m) → k - l ≤ cap' → RepD h (.slice (some (ad.add (l * sz))) (k - l) cap') (.sl m ((es.take k).drop l)) := by
  rcases r.slice with ⟨rfl, rfl⟩ | ⟨ad, cap, vs, rfl, ha, hc, hn, hh, hr⟩
  · exact .inl ⟨rfl, rfl⟩
  · refine .inr ⟨ad, cap, rfl, hc, fun l k hl hk sz cap' hsz hcap => ?_⟩
    have hlen : ((es.take k).drop l).length = k - l := by rw [List.length_drop, List.length_take]; omega
    have hget : ∀ (j : Nat) e, ((es.take k).drop l)[j]? = some e → es[l + j]? = some e ∧ l + j < k := fun j e he => by
      rw [List.getElem?_drop, List.getElem?_take] at he
      split at he
      · exact ⟨he, by assumption⟩
      · cases he
    rw [← hlen]
    by_cases hne : l = k
    · have e0 : (es.take k).drop l = [] := by subst hne; exact List.drop_eq_nil_of_le (by rw [List.length_take]; omega)
      rw [e0]
      exact .sl _ cap' m [] (fun _ _ => undef) (by simp) (by simp) (by simp) (by simp) (by simp)
    · have hsz := hsz hne
      subst hsz
      have hsp : ad.spot = none := ha (by intro e0; rw [e0] at hk; simp at hk; omega)
      obtain ⟨bk, off, sp⟩ := ad
      simp only at hsp
      subst hsp
      rw [add_plain]
      refine .sl _ cap' sz _ (fun j i => vs (l + j) i) (fun _ => rfl) (by rw [hlen]; exact hcap) (fun j e he => hn _ _ (hget j e he).1) (fun j e i y he hy => ?_) (fun j e i y he hy => hr _ _ _ _ (hget j e he).1 hy)
      have := hh _ _ _ _ (hget j e he).1 hy
      simp only at this ⊢
      rw [Nat.add_mul] at this
      rw [show off + l * sz + (j * sz + i) = off + (l * sz + j * sz + i) by omega]
      exact this
theorem op_slice (htt : TTok P tt) (S : Sim I B0 M nt x t b a w) (tq : TypeId) (y : Operand) (lo hi : Option Operand) (h : DenN P tt X n Res (opEff tt ⟨dst, .slice tq y lo hi none, ty, pos, after, guard⟩ (St.ev ⟨t, b⟩) (getB b)) r) : OpOK I B0 M P ⟨dst, .slice tq y lo hi none, ty, pos, after, guard⟩ a x b w r := by
  have hy := S.ev y
  simp only [opEff] at h
  split at h
  · rename_i l k e1 e2
    have blo := optInt_rep S e1
    have bhi := optInt_rep S e2
    unfold evSlice at h
    have hlo' : ((lo.map a.eval) = none ∧ l.getD 0 = 0) ∨ ∃ kk, (lo.map a.eval) = some (.int kk (l.getD 0)) := by
      rcases blo with ⟨rfl, rfl⟩ | ⟨z, kk, j, rfl, rfl, hj⟩
      · exact .inl ⟨rfl, rfl⟩
      · exact .inr ⟨kk, by simp [hj]⟩
    have hhi' : ∀ len : Nat, ((hi.map a.eval) = none ∧ k.getD len = len) ∨ ∃ kk, (hi.map a.eval) = some (.int kk (k.getD len)) := fun len => by
      rcases bhi with ⟨rfl, rfl⟩ | ⟨z, kk, j, rfl, rfl, hj⟩
      · exact .inl ⟨rfl, rfl⟩
      · exact .inr ⟨kk, by simp [hj]⟩
    split at h
    · rename_i s q n1 cmp e3 e4
      rw [e3] at hy
      obtain ⟨d, hu, _, _, _, hs, _⟩ := (htt _ _ e4).kind
      obtain rfl := hs _ rfl
      simp only at h
      obtain ⟨⟨h0, h1, h2⟩, h3⟩ := den_asrt h
      refine OpOK.pure S (v := .string (s.extract (l.getD 0).toNat (k.getD s.size).toNat)) (den_val h3) ?_ (RepD.str _)
      have : (Instr.sliceAt tq (.string s) (lo.map a.eval) (hi.map a.eval) none).run P w = .ok (.string (s.extract (l.getD 0).toNat (k.getD s.size).toNat)) w := by
        rw [run_sliceAt_string w tq _ _ _ _ hu]
        have := run_sliceBounds (P := P) (w := w) false s.size s.size (lo.map a.eval) (hi.map a.eval) _ _ hlo' (hhi' s.size) h0 h1 h2 (Nat.le_refl _)
        simp [Instr.slice, run_underlying hu, this]
      simp only [execOp, hy.str]
      rw [Sem.run_bind]
      show Result.andThen ((Instr.sliceAt tq (.string s) (lo.map a.eval) (hi.map a.eval) none).run P w) _ = _
      rw [this]; rfl
    · rename_i e q by0 n1 zero cmp e4
      split at h
      · rename_i m es e5
        split at h
        case h_2 => exact (den_fail h).elim
        rename_i hqm
        have hqm := Nat.eq_of_beq_eq_true hqm
        obtain ⟨hu, _, ⟨i, zz, hi', hsz, _⟩, _⟩ := (htt _ _ e4).kind
        simp only at h
        obtain ⟨⟨h0, h1, h2⟩, h3⟩ := den_asrt h
        have hr := slOf_rep e5 hy
        have hel : P.elem tq = e := by simp [Program.elem, hu]
        have hrun : ∀ (ad : Option Addr) (cap : Nat), es.length ≤ cap → (Instr.sliceAt tq (.slice ad es.length cap) (lo.map a.eval) (hi.map a.eval) none).run P w =
            .ok (.slice (if cap = (l.getD 0).toNat then ad else ad.map (·.add ((l.getD 0).toNat * q))) ((k.getD es.length).toNat - (l.getD 0).toNat) (cap - (l.getD 0).toNat)) w := by
          intro ad cap hc
          rw [run_sliceAt_slice w tq _ _ _ _ (by rw [hu]; simp [Program.elem, hu])]
          have := run_sliceBounds (P := P) (w := w) true es.length cap (lo.map a.eval) (hi.map a.eval) _ _ hlo' (hhi' es.length) h0 h1 h2 hc
          simp [Instr.slice, run_underlying hu, this, sizeOf, typeInfo, hi', hsz]
        have fin : ∀ v u, (Instr.sliceAt tq (a.eval y) (lo.map a.eval) (hi.map a.eval) none).run P w = .ok v w → RepD x.h v (.sl m u) → u = (es.take (k.getD es.length).toNat).drop (l.getD 0).toNat → OpOK I B0 M P ⟨dst, .slice tq y lo hi none, ty, pos, after, guard⟩ a x b w r := by
          intro v u g1 g2 g3
          subst g3
          refine OpOK.pure S (v := v) (den_val h3) ?_ g2
          simp only [execOp]
          rw [Sem.run_bind]
          show Result.andThen ((Instr.sliceAt tq (a.eval y) (lo.map a.eval) (hi.map a.eval) none).run P w) _ = _
          rw [g1]; rfl
        generalize hv : a.eval y = v at *
        rcases hr.sub with ⟨rfl, rfl⟩ | ⟨ad, cap, rfl, hc, hsub⟩
        · have g := hrun none 0 (Nat.le_refl _)
          have h2' : k.getD 0 ≤ 0 := by simpa using h2
          have h1' : l.getD 0 ≤ k.getD 0 := by simpa using h1
          have e0 : (l.getD 0).toNat = 0 := by omega
          have e1 : (k.getD 0).toNat = 0 := by omega
          refine fin _ [] g ?_ (by simp)
          simp [e0, e1]
          exact .sl0 _
        · have g := hrun (some ad) cap hc
          refine fin _ _ g ?_ rfl
          by_cases hcl : cap = (l.getD 0).toNat
          · rw [if_pos hcl]
            have hlk : (l.getD 0).toNat = (k.getD es.length).toNat := by omega
            have := hsub (l.getD 0).toNat (k.getD es.length).toNat (by omega) (by omega) 0 (cap - (l.getD 0).toNat) (fun hne => absurd hlk hne) (by omega)
            rw [Nat.mul_zero] at this
            simpa [Addr.add] using this
          · rw [if_neg hcl]
            exact hsub _ _ (by omega) (by omega) q _ (fun hne => hqm) (by omega)
      · exact (den_fail h).elim
    · exact (den_fail h).elim
  · exact (den_fail h).elim
/-! ### structs and arrays made -/
theorem setDs_length : ∀ (cs : List D) (i : Nat) (xs : List D), (setDs cs i xs).length = cs.length
  | [], i, xs => by cases xs <;> cases i <;> rfl
  | c :: cs, 0, [] => rfl
  | c :: cs, 0, x :: xs => by simp [setDs, setDs_length cs 0 xs]
  | c :: cs, i + 1, [] => rfl
  | c :: cs, i + 1, x :: xs => by simp [setDs, setDs_length cs i (x :: xs)]
/-- a list's values put in from a place on -/
def putVs : List Value → Nat → List Value → List Value
  | cs, _, [] => cs
  | [], _, _ => []
  | _ :: cs, 0, x :: xs => x :: putVs cs 0 xs
  | c :: cs, i + 1, xs => c :: putVs cs i xs
theorem setDs_rep {h : H} : ∀ {cs : List D} {l : List Value} {i : Nat} {xs : List D} {m : List Value}, RepDs h cs l → RepDs h xs m → RepDs h (setDs cs i xs) (putVs l i m)
  | cs, l, i, [], m, r, q => by
    have : m = [] := q
    subst this
    have e1 : setDs cs i [] = cs := by cases cs <;> cases i <;> rfl
    have e2 : putVs l i [] = l := by cases l <;> cases i <;> rfl
    rw [e1, e2]; exact r
  | [], l, i, x0 :: xs, m, r, q => by
    have : l = [] := r
    subst this
    obtain ⟨v, m0, rfl, _, _⟩ := q
    cases i <;> exact rfl
  | c :: cs, l, 0, x0 :: xs, m, r, q => by
    obtain ⟨v, l0, rfl, r1, r2⟩ := r
    obtain ⟨u, m0, rfl, q1, q2⟩ := q
    exact ⟨u, putVs l0 0 m0, rfl, q1, setDs_rep r2 q2⟩
  | c :: cs, l, i + 1, x0 :: xs, m, r, q => by
    obtain ⟨v, l0, rfl, r1, r2⟩ := r
    obtain ⟨u, m0, rfl, q1, q2⟩ := q
    exact ⟨v, putVs l0 i (u :: m0), rfl, r1, setDs_rep r2 ⟨u, m0, rfl, q1, q2⟩⟩
theorem putVs_cons (l : List Value) (i : Nat) (x : Value) (xs : List Value) (h : i + xs.length < l.length) : putVs l i (x :: xs) = putVs (l.set i x) (i + 1) xs := by
  induction l generalizing i with
  | nil => simp at h
  | cons c l ih =>
    cases i with
    | zero =>
      simp only [putVs, List.set_cons_zero]
      cases xs with
      | nil => cases l <;> rfl
      | cons y ys => rfl
    | succ i =>
      simp only [putVs, List.set_cons_succ]
      rw [ih i (by simp at h; omega)]
      cases xs with
      | nil => cases (l.set i x) <;> rfl
      | cons y ys => rfl
theorem fold_put : ∀ (vs : List Value) (off k : Nat) (cs : Array Value), off + k + vs.length ≤ cs.size → ((vs.zipIdx k).foldl (fun cs (p : Value × Nat) => cs.setIfInBounds (off + p.2) p.1) cs).toList = putVs cs.toList (off + k) vs
  | [], off, k, cs, _ => by
    have : ∀ (l : List Value) (i : Nat), putVs l i [] = l := fun l i => by cases l <;> cases i <;> rfl
    simp [this]
  | v :: vs, off, k, cs, h => by
    rw [List.zipIdx_cons, List.foldl_cons, fold_put vs off (k + 1) _ (by simp at h ⊢; omega)]
    simp only [Array.toList_setIfInBounds]
    rw [putVs_cons _ _ _ _ (by simp at h ⊢; omega)]
    rfl
theorem cellsOf_rep {ti : TI} {u : V} {v : Value} {us : List V} (h : cellsOf ti u = some us) (r : RepV x u v) : RepVs x us v.cells.toList ∧ (isAgg ti.k = true → us.length = ti.n) ∧ (isAgg ti.k = false → us.length = 1) := by
  have hmap : ∀ (ds : List D) (l : List Value), RepDs x.h ds l → RepVs x (ds.map .d) l := by
    intro ds
    induction ds with
    | nil => intro l h; exact h
    | cons y ds ih => intro l h; obtain ⟨v, l0, rfl, h1, h2⟩ := h; exact ⟨v, l0, rfl, h1, ih l0 h2⟩
  have hone : ∀ u : V, (∀ xs, u ≠ .agg xs) → (∀ vs, u ≠ .tuple vs) → u ≠ .undef → u ≠ .skip → RepV x u v → RepVs x [u] v.cells.toList := by
    intro u h1 h2 h3 h4 r
    have : v.cells = #[v] := by
      cases u with
      | agg xs => exact absurd rfl (h1 xs)
      | tuple vs => exact absurd rfl (h2 vs)
      | undef => exact absurd rfl h3
      | skip => exact absurd rfl h4
      | nilp => have e : v = _ := r; subst e; rfl
      | lit c => have e : v = _ := r; subst e; rfl
      | d y => cases (RepV.d r) <;> rfl
      | own _ _ _ => rcases (show RepOwn x _ _ _ v from r) with ⟨rfl, _⟩ | ⟨_, _, rfl, _⟩ <;> rfl
      | box _ _ => have e : v = _ := r; subst e; rfl
      | ref _ => obtain ⟨_, _, rfl, _⟩ := r; rfl
      | fn _ _ _ => obtain ⟨_, _, rfl, _⟩ := r; rfl
      | iface _ _ => obtain ⟨_, rfl, _⟩ := r; rfl
    rw [this]
    exact ⟨v, [], rfl, r, rfl⟩
  have hagg : ∀ ds, u = .agg ds → (match Nat.beq ds.length ti.n with | true => some (ds.map V.d) | false => none) = some us → RepVs x us v.cells.toList ∧ us.length = ti.n := by
    intro ds hu he
    subst hu
    split at he
    · rename_i e
      cases he
      obtain ⟨cs, rfl, q⟩ := r
      exact ⟨hmap _ _ q, by simpa using Nat.eq_of_beq_eq_true e⟩
    · cases he
  unfold cellsOf at h
  cases hk : ti.k <;> rw [hk] at h <;> simp only [isAgg]
  · refine ⟨?_, by simp, fun _ => ?_⟩ <;> (cases u <;> simp only at h <;> first | (cases h; done) | skip) <;> (cases h) <;> first | rfl | exact hone _ (by simp) (by simp) (by simp) (by simp) r
  · cases u <;> first | (cases h; done) | skip
    obtain ⟨h1, h2⟩ := hagg _ rfl h
    exact ⟨h1, fun _ => h2, by simp⟩
  · cases u <;> first | (cases h; done) | skip
    obtain ⟨h1, h2⟩ := hagg _ rfl h
    exact ⟨h1, fun _ => h2, by simp⟩
  · refine ⟨?_, by simp, fun _ => ?_⟩ <;> (cases u <;> simp only at h <;> first | (cases h; done) | skip) <;> (cases h) <;> first | rfl | exact hone _ (by simp) (by simp) (by simp) (by simp) r
theorem toDs_rep : ∀ {us : List V} {ds : List D} {l : List Value}, toDs us = some ds → RepVs x us l → RepDs x.h ds l
  | [], ds, l, h, r => by cases h; exact r
  | u :: us, ds, l, h, r => by
    obtain ⟨v, l0, rfl, r1, r2⟩ := r
    simp only [toDs] at h
    cases h1 : u.toD with
    | none => rw [h1] at h; cases h
    | some y =>
      cases h2 : toDs us with
      | none => rw [h1, h2] at h; cases h
      | some ys =>
        rw [h1, h2] at h
        cases h
        exact ⟨v, l0, rfl, toD_rep h1 r1, toDs_rep h2 r2⟩
theorem cells_size {ti : TI} {tq : Nat} {u : V} {v : Value} {us : List V} (ht : TIok P tq ti) (h : cellsOf ti u = some us) (r : RepV x u v) : v.cells.size = ti.n := by
  obtain ⟨h1, h2, h3⟩ := cellsOf_rep h r
  have e : v.cells.size = us.length := by rw [← Array.length_toList]; exact h1.length
  rw [e]
  cases hk : isAgg ti.k with
  | true => exact h2 hk
  | false => obtain ⟨_, _, _, hn⟩ := notRow_of ht hk; rw [hn]; exact h3 hk
theorem fillF_rep (htt : TTok P tt) (S : Sim I B0 M nt x t b a w) {fs : List (Nat × Nat)} {place : Nat → Option (Nat × Nat)} (hpl : ∀ i off ft ti, fs[i]? = some (off, ft) → TT.get tt ft = some ti → place i = some (off, ti.n)) :
    ∀ (ps : List (Nat × Operand)) (ds ds' : List D) (cs : Array Value), fillF tt fs (ps.map fun p => (p.1, St.ev ⟨t, b⟩ p.2)) ds = some ds' → RepDs x.h ds cs.toList →
      ∃ cs', Instr.fill place cs (ps.map fun p => (p.1, a.eval p.2)) = some cs' ∧ RepDs x.h ds' cs'.toList
  | [], ds, ds', cs, h, r => by cases h; exact ⟨cs, rfl, r⟩
  | (i, y) :: ps, ds, ds', cs, h, r => by
    simp only [List.map_cons, fillF] at h
    cases h1 : fs[i]? with
    | none => rw [h1] at h; cases h
    | some p =>
      obtain ⟨off, ft⟩ := p
      rw [h1] at h
      simp only at h
      cases h2 : TT.get tt ft with
      | none => rw [h2] at h; cases h
      | some ti =>
        rw [h2] at h
        simp only at h
        cases h3 : cellsOf ti (St.ev ⟨t, b⟩ y) with
        | none => rw [h3] at h; cases h
        | some us =>
          rw [h3] at h
          simp only at h
          cases h4 : toDs us with
          | none => rw [h4] at h; cases h
          | some xs =>
            rw [h4] at h
            simp only at h
            split at h
            · rename_i hle
              have hle := Nat.le_of_ble_eq_true hle
              have hsz := cells_size (htt _ _ h2) h3 (S.ev y)
              have hrx := toDs_rep h4 (cellsOf_rep h3 (S.ev y)).1
              have hlen : cs.size = ds.length := by rw [← Array.length_toList]; exact r.length
              have hxl : (a.eval y).cells.toList.length = xs.length := hrx.length
              have hxs : (a.eval y).cells.size = xs.length := by rw [← hxl]; simp
              have hfold := fold_put (a.eval y).cells.toList off 0 cs (by rw [hxl, hlen]; omega)
              obtain ⟨cs', g1, g2⟩ := fillF_rep htt S hpl ps (setDs ds off xs) ds' (((a.eval y).cells.toList.zipIdx 0).foldl (fun cs (p : Value × Nat) => cs.setIfInBounds (off + p.2) p.1) cs) h (by
                rw [hfold]; exact setDs_rep r hrx)
              refine ⟨cs', ?_, g2⟩
              simp only [List.map_cons, Instr.fill, hpl i off ft ti h1 h2]
              rw [if_neg (by simp only [hsz, ne_eq, not_true_eq_false, decide_false, Bool.false_or, decide_eq_true_eq, Bool.or_eq_true, Nat.not_lt]; omega)]
              rw [← g1, ← Array.foldl_toList]
              simp
            · cases h
end
end Go.Proofs.YtaddhpeainliiaaGreatDoor.Id
/-! ## IdealH -/
namespace Go.Proofs.YtaddhpeainliiaaGreatDoor.Id
open Go
set_option linter.unusedSectionVars false
set_option linter.unusedVariables false
set_option linter.unusedSimpArgs false
section
variable {I : World → Prop} {B0 : Nat} {M : Nat → Prop} {P : Program} {tt : TT} {X : Given} {n nt : Nat} {x : Aux} {t : Tmps} {b : Boxes} {a : Act} {w : World}
variable [Ds]
variable {dst : Option Tmp} {ty : TypeId} {pos : String} {after : Array Edge} {guard : Option (Nat × Bool)} {r : Res}
theorem mapM_all {α β : Type} {f : α → Option β} (g : α → β) : ∀ {l : List α}, (∀ x ∈ l, f x = some (g x)) → l.mapM f = some (l.map g)
  | [], _ => rfl
  | y :: l, h => by
    rw [List.mapM_cons, h y (by simp), mapM_all g (fun x hx => h x (by simp [hx]))]
    rfl
theorem op_build (htt : TTok P tt) (S : Sim I B0 M nt x t b a w) (tq : TypeId) (ps : Array (Nat × Operand)) (h : DenN P tt X n Res (opEff tt ⟨dst, .build tq ps, ty, pos, after, guard⟩ (St.ev ⟨t, b⟩) (getB b)) r) : OpOK I B0 M P ⟨dst, .build tq ps, ty, pos, after, guard⟩ a x b w r := by
  simp only [opEff] at h
  have fin : ∀ (cells : Array Value) (ds : List D), P.built tq (ps.toList.map fun p => (p.1, a.eval p.2)) = some cells → RepDs x.h ds cells.toList → DenN P tt X n Res (val (.agg ds)) r → OpOK I B0 M P ⟨dst, .build tq ps, ty, pos, after, guard⟩ a x b w r := by
    intro cells ds h1 h2 h3
    refine OpOK.pure S (v := .agg cells) (den_val h3) ?_ ⟨cells, rfl, h2⟩
    simp only [execOp]
    rw [Sem.run_bind, run_build w tq _ cells (by rw [Array.toList_map]; exact h1)]
    rfl
  split at h
  · rename_i fs n1 zero cmp e1
    obtain ⟨fields, hu, rfl, hne, _⟩ := (htt _ _ e1).kind
    obtain ⟨it, z, hit, hsz, hz, hzr⟩ := (htt _ _ e1).info
    split at h
    · rename_i zs e2
      split at h
      · rename_i ds e3
        have hinfo : ∀ f ∈ fields.toList, ∃ i, P.info? f.type = some i ∧ i.size = P.cellsOf f.type := fun f hf => by
          have := hne f hf
          cases hq : P.info? f.type with
          | none => simp [Program.cellsOf, hq] at this
          | some i => exact ⟨i, rfl, by simp [Program.cellsOf, hq]⟩
        have hm := mapM_all (f := fun f => (P.info? f.type).map fun i => (f.offset, i.size)) (fun f => (f.offset, P.cellsOf f.type)) (l := fields.toList) (fun f hf => by
          obtain ⟨i, h1, h2⟩ := hinfo f hf
          simp [h1, h2])
        obtain ⟨cs', g1, g2⟩ := fillF_rep htt S (place := ((fields.toList.map fun f => (f.offset, P.cellsOf f.type)).toArray[·]?)) (fun i off ft ti hi ht => by
          rw [List.getElem?_map, Array.getElem?_toList] at hi
          cases hf : fields[i]? with
          | none => rw [hf] at hi; cases hi
          | some fl =>
            rw [hf] at hi
            simp only [Option.map_some, Option.some.injEq, Prod.mk.injEq] at hi
            obtain ⟨rfl, rfl⟩ := hi
            have hs := info_size (htt _ _ ht)
            simp only [List.getElem?_toArray, List.getElem?_map, Array.getElem?_toList, hf, Option.map_some, Option.some.injEq, Prod.mk.injEq, true_and]
            unfold Program.cellsOf
            rw [hs]; rfl) ps.toList zs ds z.cells e3 (toDs_rep e2 (hzr x))
        refine fin cs' ds ?_ g2 h
        simp only [Program.built, hit, hu, hz, hm]
        exact g1
      · exact (den_fail h).elim
    · exact (den_fail h).elim
  · rename_i e len n1 zero cmp e1
    have hu : P.underlying tq = some (.array len e) := (htt _ _ e1).kind
    obtain ⟨it, z, hit, hsz, hz, hzr⟩ := (htt _ _ e1).info
    split at h
    · rename_i te zs e2 e3
      obtain ⟨ie, ze, hie, hes, _⟩ := (htt _ _ e2).info
      split at h
      · rename_i ds e4
        obtain ⟨cs', g1, g2⟩ := fillF_rep htt S (place := fun i => some (i * ie.size, ie.size)) (fun i off ft ti hi ht => by
          rw [List.getElem?_map] at hi
          cases hr : (List.range len)[i]? with
          | none => rw [hr] at hi; cases hi
          | some j =>
            rw [hr] at hi
            have hj : j = i := by
              obtain ⟨_, hj⟩ := List.getElem?_eq_some_iff.1 hr
              simpa using hj.symm
            subst hj
            simp only [Option.map_some, Option.some.injEq, Prod.mk.injEq] at hi
            obtain ⟨rfl, rfl⟩ := hi
            rw [e2] at ht
            cases ht
            rw [hes]) ps.toList zs ds z.cells e4 (toDs_rep e3 (hzr x))
        refine fin cs' ds ?_ g2 h
        simp only [Program.built, hit, hu, hz, hie]
        exact g1
      · exact (den_fail h).elim
    · exact (den_fail h).elim
  · exact (den_fail h).elim
/-! ### new boxes -/
theorem np_rep {x : Aux} {u : V} {v : Value} (h : hdNP u = true) (r : RepV x u v) (l : List Value) : pw (v :: l) = false := by
  cases u with
  | d y => cases (RepV.d r) <;> rfl
  | lit b => have e : v = _ := r; subst e; rfl
  | own k n es => rcases (show RepOwn x k n es v from r) with ⟨rfl, _⟩ | ⟨_, _, rfl, _⟩ <;> rfl
  | _ => cases h
theorem p_rep {x : Aux} {u : V} {v : Value} (h : hdP u = true) (r : RepV x u v) (l : List Value) : pw (v :: l) = true := by
  cases u with
  | nilp => have e : v = _ := r; subst e; rfl
  | box i o => have e : v = _ := r; subst e; rfl
  | _ => cases h
theorem alOk_pw {x : Aux} {cs : List V} {ws : Array Value} {tq : TypeId} (h : alOk cs tq = true) (hr : RepVs x cs ws.toList) : pw ws.toList = true → kn ws.size tq = true := fun hp => by
  have hl : ws.size = cs.length := by rw [← Array.length_toList]; exact hr.length
  rw [hl]
  unfold alOk at h
  cases hk : knAny cs.length with
  | true => exact knAny_kn hk tq
  | false =>
    rw [hk] at h
    cases cs with
    | nil => have e : ws.toList = [] := hr; rw [e] at hp; cases hp
    | cons c r =>
      obtain ⟨v, l, e, h1, h2⟩ := hr
      cases hc : hdNP c with
      | true => rw [e, np_rep hc h1 l] at hp; cases hp
      | false => simp only [hc] at h; exact h
theorem EffOK.newBox (S : Sim I B0 M nt x t b a w) (hI : Stable I B0) {w' : World} (d : Nat) (hdb : d < base) (cs : List V) (ws : Array Value) (tq : TypeId) (hheap : w'.heap = w.heap.push (.cells ws tq (0, 0))) (h1 : w'.os = w.os) (h2 : w'.tape = w.tape) (h3 : w'.output = w.output)
    (hr : ∀ x' : Aux, x'.h = x.h → (∀ i, i ≠ d → x'.ρ i = x.ρ i) → x'.z = x.z → x'.u = x.u → RepVs x' cs ws.toList) (hkt : pw ws.toList = true → kn ws.size tq = true) :
    ∃ x', EffOK I B0 M x b { v := .box d 0, wr := [(d, cs)], drp := [d] } w (.pointer (some ⟨w.heap.size, 0, none⟩)) x' w' := by
  refine ⟨{ x with ρ := fun i => if i = d then w.heap.size else x.ρ i }, fun _ _ _ h => h, fun i hi => ?_, fun _ _ => rfl, fun b1 hb => ?_, ?_, ?_, fun _ h => h⟩
  · simp only [List.mem_singleton] at hi
    simp [hi]
  · have hlt : ∀ k, k < w.heap.size → w'.heap[k]? = w.heap[k]? := fun k hk => by rw [hheap]; exact push_lt hk
    have hρd : ∀ i, getB b i ≠ none → i ≠ d → x.ρ i < w.heap.size := fun i hi _ => by
      cases hg : getB b i with
      | none => exact absurd hg hi
      | some cs => exact S.ws.lt hg
    have hwr : ∀ i, getB [(d, cs)] i = if d = i then some cs else none := fun i => by
      simp only [getB]
      by_cases h : d = i
      · subst h; simp
      · have : Nat.beq d i = false := by rw [← Bool.not_eq_true]; exact fun e => h (Nat.eq_of_beq_eq_true e)
        rw [this, if_neg h]
    refine S.ws.step hI hb (fun _ _ _ h => h) (fun i hi => by simp only [List.mem_singleton] at hi; simp [hi]) (fun _ _ => rfl) (by rw [hheap]; simp) (fun k hk => ?_) (fun k o v hv => ?_) (fun i c0 hn hc => ?_) (fun i c0 hn => ?_) (fun i j hi hj hij => ?_) (fun t' k s e hz => ?_) S.ws.zinj (fun t' k s e i hz hi => ?_) (fun k hk => (let ⟨ws2, f2, h2⟩ := S.ws.uu k hk; ⟨ws2, f2, by rw [hlt k (heap_lt h2)]; exact h2⟩)) (fun _ h => h) (fun i c0 hn ws2 t2 f2 hh2 => ?_)
    rotate_left 7
    · rw [hwr] at hn
      by_cases e : d = i
      · subst e
        simp only [if_true] at hh2
        rw [hheap, push_eq] at hh2
        cases hh2; exact hkt
      · rw [if_neg e] at hn; cases hn
    · rcases Nat.lt_or_ge k w.heap.size with g | g
      · exact hlt k g
      · exact absurd (S.ws.top k g) hk
    · have hc := S.ws.agree k o v hv
      rw [cell_of_block (w := w) (hlt k (cell_lt hc))]; exact hc
    · rw [hwr] at hn
      have hne : ¬ d = i := fun e => by rw [if_pos e] at hn; cases hn
      exact ⟨by simp only [List.mem_singleton]; exact fun e => hne e.symm, hlt _ (S.ws.lt hc), (S.ws.box i c0 hc).2.1⟩
    · rw [hwr] at hn
      by_cases e : d = i
      · subst e
        rw [if_pos rfl] at hn
        cases hn
        simp only [if_true]
        refine ⟨S.ws.top _ (Nat.le_refl _), fun o => S.ws.h_none (Nat.le_refl _) o, ws, tq, by rw [hheap]; exact push_eq, hr _ rfl (fun i hi => by simp [hi]) rfl rfl⟩
      · rw [if_neg e] at hn; cases hn
    · rw [hwr] at hi hj
      simp only at hij
      by_cases ei : i = d <;> by_cases ej : j = d
      · rw [ei, ej]
      · rw [if_pos ei, if_neg ej] at hij
        have hj' := hj.resolve_left (by rw [if_neg (fun e => ej e.symm)]; simp)
        have := hρd j hj' ej
        omega
      · rw [if_neg ei, if_pos ej] at hij
        have hi' := hi.resolve_left (by rw [if_neg (fun e => ei e.symm)]; simp)
        have := hρd i hi' ei
        omega
      · rw [if_neg ei, if_neg ej] at hij
        have hi' := hi.resolve_left (by rw [if_neg (fun e => ei e.symm)]; simp)
        have hj' := hj.resolve_left (by rw [if_neg (fun e => ej e.symm)]; simp)
        cases h4 : getB b i with
        | none => exact absurd h4 hi'
        | some c1 =>
          cases h5 : getB b j with
          | none => exact absurd h5 hj'
          | some c2 => exact S.ws.inj i j c1 c2 h4 h5 hij
    · obtain ⟨g1, g2, g3, ws', ty', g4, g5⟩ := S.ws.zone t' k s e hz
      exact ⟨g1, g2, g3, ws', ty', by rw [hlt k (heap_lt g4)]; exact g4, g5⟩
    · rw [hwr] at hi
      have hk := S.ws.zlt hz
      by_cases ei : i = d
      · simp only [if_pos ei]; omega
      · simp only [if_neg ei]
        have hi' := hi.resolve_left (by rw [if_neg (fun e => ei e.symm)]; simp)
        cases h4 : getB b i with
        | none => exact absurd h4 hi'
        | some c1 => exact S.ws.zbox t' k s e i c1 hz h4
  · exact Ext.push S.ws hheap h1 h2 h3 |>.trans ⟨rfl, rfl, rfl, Nat.le_refl _, fun _ _ => rfl, fun _ _ _ h => h, fun _ _ => rfl, fun i hi => if_neg (by omega), fun _ h => h⟩
  · show RepV _ (.box d 0) _
    simp [RepV, RepN]
theorem op_alloc (htt : TTok P tt) (hdb : ∀ d, dst = some d → d < base) (hI : Stable I B0) (S : Sim I B0 M nt x t b a w) (tq : TypeId) (h : DenN P tt X n Res (opEff tt ⟨dst, .alloc tq, ty, pos, after, guard⟩ (St.ev ⟨t, b⟩) (getB b)) r) : OpOK I B0 M P ⟨dst, .alloc tq, ty, pos, after, guard⟩ a x b w r := by
  simp only [opEff] at h
  split at h
  · rename_i d ti e1
    obtain ⟨it, z, hit, hsz, hz, hzr⟩ := (htt _ _ e1).info
    split at h
    rotate_left
    · exact (den_fail h).elim
    rename_i ekn
    obtain rfl := den_leaf h
    refine ⟨fun _ => ?_, fun u hu => by cases hu⟩
    obtain ⟨x', hx⟩ := EffOK.newBox S hI (w' := w.alloc (.cells z.cells tq)) d (hdb d rfl) ti.zero z.cells tq rfl rfl rfl rfl (fun x' _ _ _ _ => hzr x') (alOk_pw ekn (hzr x))
    refine ⟨_, x', _, .inl ?_, hx⟩
    simp only [execOp]
    rw [Sem.run_bind]
    have : (Instr.alloc tq true (.tuple #[])).run P w = .ok (.pointer (some ⟨w.heap.size, 0, none⟩)) (w.alloc (.cells z.cells tq)) := by
      simp [Instr.alloc, zeroValue, typeInfo, newVar, newRow, newObj, program, go_sem, hit, hz, Sem.run]
    rw [this]; rfl
  · exact (den_fail h).elim
theorem op_box (htt : TTok P tt) (hdb : ∀ d, dst = some d → d < base) (hI : Stable I B0) (S : Sim I B0 M nt x t b a w) (tq : TypeId) (y : Operand) (h : DenN P tt X n Res (opEff tt ⟨dst, .box tq y, ty, pos, after, guard⟩ (St.ev ⟨t, b⟩) (getB b)) r) : OpOK I B0 M P ⟨dst, .box tq y, ty, pos, after, guard⟩ a x b w r := by
  have hy := (S.ev y).plain
  simp only [opEff] at h
  split at h
  · rename_i d ti e1
    split at h
    · rename_i cs e2
      split at h
      rotate_left
      · exact (den_fail h).elim
      rename_i ekn
      obtain rfl := den_leaf h
      refine ⟨fun _ => ?_, fun u hu => by cases hu⟩
      obtain ⟨hc, _, _⟩ := cellsOf_rep e2 hy
      obtain ⟨x', hx⟩ := EffOK.newBox S hI (w' := w.alloc (.cells (a.eval y).cells tq)) d (hdb d rfl) (cleanVs [] [d] cs) (a.eval y).cells tq rfl rfl rfl rfl (fun x' h1 h2 h3 h4 => hc.clean (fun k o v hv => by rw [h1]; exact hv) (fun i hi => h2 i (by simpa using hi)) (fun t _ => by rw [h3]) (fun k hk => by rw [h4]; exact hk)) (alOk_pw ekn hc)
      refine ⟨_, x', _, .inl ?_, hx⟩
      simp only [execOp]
      rw [Sem.run_bind]
      have : (Instr.box tq (a.eval y)).run P w = .ok (.pointer (some ⟨w.heap.size, 0, none⟩)) (w.alloc (.cells (a.eval y).cells tq)) := by
        simp [Instr.box, newVar, newRow, newObj, go_sem, Sem.run]
      rw [this]; rfl
    · exact (den_fail h).elim
  · exact (den_fail h).elim
end
end Go.Proofs.YtaddhpeainliiaaGreatDoor.Id
/-! ## IdealI -/
namespace Go.Proofs.YtaddhpeainliiaaGreatDoor.Id
open Go
set_option linter.unusedSectionVars false
set_option linter.unusedVariables false
set_option linter.unusedSimpArgs false
section
variable {I : World → Prop} {B0 : Nat} {M : Nat → Prop} {P : Program} {tt : TT} {X : Given} {n nt : Nat} {x : Aux} {t : Tmps} {b : Boxes} {a : Act} {w : World}
variable [Ds]
variable {dst : Option Tmp} {ty : TypeId} {pos : String} {after : Array Edge} {guard : Option (Nat × Bool)} {r : Res}
theorem putVs_eq : ∀ (l : List Value) (i : Nat) (m : List Value), i + m.length ≤ l.length → putVs l i m = l.take i ++ m ++ l.drop (i + m.length)
  | l, i, [], _ => by
    have : putVs l i [] = l := by cases l <;> cases i <;> rfl
    simp [this]
  | [], i, y :: m, h => by simp at h
  | c :: l, 0, y :: m, h => by
    simp only [putVs]
    rw [putVs_eq l 0 m (by simp at h ⊢; omega)]
    simp [Nat.add_comm]
  | c :: l, i + 1, y :: m, h => by
    simp only [putVs]
    rw [putVs_eq l i (y :: m) (by simp at h ⊢; omega), show i + 1 + (y :: m).length = (i + (y :: m).length) + 1 by omega]
    simp
theorem setAt_rep : ∀ {cs : List V} {l : List Value} {i : Nat} {us : List V} {m : List Value}, RepVs x cs l → RepVs x us m → RepVs x (setAt cs i us) (putVs l i m)
  | cs, l, i, [], m, r, q => by
    have : m = [] := q
    subst this
    have e1 : setAt cs i [] = cs := by cases cs <;> cases i <;> rfl
    have e2 : putVs l i [] = l := by cases l <;> cases i <;> rfl
    rw [e1, e2]; exact r
  | [], l, i, x0 :: xs, m, r, q => by
    have : l = [] := r
    subst this
    obtain ⟨v, m0, rfl, _, _⟩ := q
    cases i <;> exact rfl
  | c :: cs, l, 0, x0 :: xs, m, r, q => by
    obtain ⟨v, l0, rfl, r1, r2⟩ := r
    obtain ⟨u, m0, rfl, q1, q2⟩ := q
    exact ⟨u, putVs l0 0 m0, rfl, q1, setAt_rep r2 q2⟩
  | c :: cs, l, i + 1, x0 :: xs, m, r, q => by
    obtain ⟨v, l0, rfl, r1, r2⟩ := r
    obtain ⟨u, m0, rfl, q1, q2⟩ := q
    exact ⟨v, putVs l0 i (u :: m0), rfl, r1, setAt_rep r2 ⟨u, m0, rfl, q1, q2⟩⟩
theorem cellsOf_one {ti : TI} {u : V} {v : Value} {us : List V} (h : cellsOf ti u = some us) (r : RepV x u v) : ∀ c ∈ v.cells.toList, c.oneCell' = true := by
  have hds : ∀ (ds : List D) (l : List Value), RepDs x.h ds l → ∀ c ∈ l, c.oneCell' = true := by
    intro ds
    induction ds with
    | nil => intro l h c hc; have : l = [] := h; subst this; cases hc
    | cons y ds ih =>
      intro l h c hc
      obtain ⟨v, l0, rfl, h1, h2⟩ := h
      cases hc with
      | head => exact h1.one
      | tail _ hc => exact ih l0 h2 c hc
  cases u with
  | agg xs => obtain ⟨cs, rfl, q⟩ := r; exact hds _ _ q
  | tuple vs => unfold cellsOf at h; cases hk : ti.k <;> rw [hk] at h <;> cases h
  | undef => unfold cellsOf at h; cases hk : ti.k <;> rw [hk] at h <;> cases h
  | skip => unfold cellsOf at h; cases hk : ti.k <;> rw [hk] at h <;> cases h
  | nilp => have e : v = _ := r; subst e; intro c hc; simp [Value.cells] at hc; subst hc; rfl
  | lit c => have e : v = _ := r; subst e; intro c hc; simp [Value.cells] at hc; subst hc; rfl
  | d y => cases (RepV.d r) <;> (intro c hc; simp [Value.cells] at hc; subst hc; rfl)
  | own _ _ _ => rcases (show RepOwn x _ _ _ v from r) with ⟨rfl, _⟩ | ⟨_, _, rfl, _⟩ <;> (intro c hc; simp [Value.cells] at hc; subst hc; rfl)
  | box _ _ => have e : v = _ := r; subst e; intro c hc; simp [Value.cells] at hc; subst hc; rfl
  | ref _ => obtain ⟨_, _, rfl, _⟩ := r; intro c hc; simp [Value.cells] at hc; subst hc; rfl
  | fn _ _ _ => obtain ⟨_, _, rfl, _⟩ := r; intro c hc; simp [Value.cells] at hc; subst hc; rfl
  | iface _ _ => obtain ⟨_, rfl, _⟩ := r; intro c hc; simp [Value.cells] at hc; subst hc; rfl
theorem run_store_row {tq : Nat} {ti : TI} (ht : TIok P tq ti) {g off : Nat} {ws : Array Value} {wt : TypeId} {v : Value} (hg : w.heap[g]? = some (.cells ws wt (0, 0))) (hsz : v.cells.size = ti.n) (h1 : ∀ c ∈ v.cells.toList, c.oneCell' = true) (hle : off + v.cells.size ≤ ws.size) :
    (Instr.storeAt tq (.pointer (some ⟨g, off, none⟩)) v).run P w = .ok () (w.setRow g (putVs ws.toList off v.cells.toList).toArray) := by
  obtain ⟨i, z, hi, hs, _⟩ := ht.info
  have hst := run_storeCells_at P g off wt v.cells.toList 0 ws w hg (by simpa using hle) h1
  rw [Nat.add_zero] at hst
  rw [putVs_eq _ _ _ (by simpa using hle)]
  simp [Instr.storeAt, Instr.sureAddr, storeVar, sizeOf, typeInfo, hi, hs, hsz, hst, pure, Sem.run]
theorem pw_put : ∀ (l : List Value) (off : Nat) (m : List Value), pw (putVs l off m) = true → pw l = true ∨ ∃ v m', off = 0 ∧ m = v :: m' ∧ pw [v] = true
  | l, off, [], h => by
    have : putVs l off [] = l := by cases l <;> cases off <;> rfl
    rw [this] at h; exact .inl h
  | [], off, y :: m, h => by
    have : putVs [] off (y :: m) = [] := by cases off <;> rfl
    rw [this] at h; exact .inl h
  | c :: l, 0, y :: m, h => .inr ⟨y, m, rfl, rfl, by
    have h : pw (y :: putVs l 0 m) = true := h
    cases y <;> first | rfl | cases h⟩
  | c :: l, off + 1, y :: m, h => .inl (by
    have h : pw (c :: putVs l off (y :: m)) = true := h
    cases c <;> first | rfl | cases h)
theorem stOk_pw {x : Aux} {cs xs : List V} {off : Nat} {ws : Array Value} {m : List Value} (h : stOk cs off xs = true) (hr : RepVs x cs ws.toList) (hx : RepVs x xs m) : pw (putVs ws.toList off m).toArray.toList = true → pw ws.toList = true ∨ knAny ws.size = true := fun hp => by
  have hl : ws.size = cs.length := by rw [← Array.length_toList]; exact hr.length
  rw [hl]
  cases hk : knAny cs.length with
  | true => exact .inr rfl
  | false =>
    refine .inl ?_
    rcases pw_put _ _ _ hp with h1 | ⟨v, m', rfl, rfl, hv⟩
    · exact h1
    · unfold stOk at h
      rw [hk] at h
      cases xs with
      | nil => cases (show (v :: m') = [] from hx)
      | cons u us =>
        obtain ⟨v2, l2, e, h1, h2⟩ := hx
        cases e
        cases hu : hdNP u with
        | true => rw [np_rep hu h1 []] at hv; cases hv
        | false =>
          simp only [hu] at h
          cases cs with
          | nil =>
            have e : ws.toList = [] := hr
            rw [e] at hp; cases hp
          | cons c r =>
            obtain ⟨v3, l3, e3, h3, h4⟩ := hr
            rw [e3]; exact p_rep h h3 l3
/-- cells of a box written -/
theorem EffOK.store (S : Sim I B0 M nt x t b a w) (hI : Stable I B0) {i : Nat} {cs : List V} {ws : Array Value} {wt : TypeId} (hb : getB b i = some cs) (hg : w.heap[x.ρ i]? = some (.cells ws wt (0, 0))) {x' : Aux} {scr : List Tok} {cs' : List V} {ws' : Array Value}
    (f : Tok → Tok) (hh : x'.h = x.h) (hρ : x'.ρ = x.ρ) (hxu : x'.u = x.u) (hz : ∀ t, t ∉ scr → x'.z t = x.z t) (hf : ∀ t p, x'.z t = some p → x.z (f t) = some p) (hfi : ∀ t t', x'.z t ≠ none → x'.z t' ≠ none → f t = f t' → t = t')
    (hsz : ws'.size = ws.size) (hr : RepVs x' cs' ws'.toList) (hpw : pw ws'.toList = true → pw ws.toList = true ∨ knAny ws.size = true) : EffOK I B0 M x b { wr := [(i, cs')], scr := scr } w undef x' (w.setRow (x.ρ i) ws') := by
  have hblk : (w.setRow (x.ρ i) ws').heap[x.ρ i]? = some (.cells ws' wt (0, 0)) := setRow_heap w (x.ρ i) ws _ wt _ hg
  have hoth : ∀ k, k ≠ x.ρ i → (w.setRow (x.ρ i) ws').heap[k]? = w.heap[k]? := fun k hk => setRow_other w (x.ρ i) k _ (fun e => hk (by first | exact e | exact e.symm))
  have hsize : (w.setRow (x.ρ i) ws').heap.size = w.heap.size := by simp [World.setRow]
  obtain ⟨hm, hn, _⟩ := S.ws.box i cs hb
  have hwr : ∀ j, getB [(i, cs')] j = if i = j then some cs' else none := fun j => by
    simp only [getB]
    by_cases h : i = j
    · subst h; simp
    · have : Nat.beq i j = false := by rw [← Bool.not_eq_true]; exact fun e => h (Nat.eq_of_beq_eq_true e)
      rw [this, if_neg h]
  have hsome : ∀ j, (getB [(i, cs')] j ≠ none ∨ getB b j ≠ none) → ∃ c, getB b j = some c := fun j hj => by
    cases h4 : getB b j with
    | some c => exact ⟨c, rfl⟩
    | none =>
      rcases hj with hj | hj
      · rw [hwr] at hj
        by_cases e : i = j
        · subst e; rw [hb] at h4; cases h4
        · rw [if_neg e] at hj; exact absurd rfl hj
      · exact absurd h4 hj
  refine ⟨fun k o v h => by rw [hh]; exact h, fun _ _ => by rw [hρ], hz, fun b1 hb1 => ?_, ?_, trivial, fun k hk => by rw [hxu]; exact hk⟩
  · refine S.ws.step hI hb1 (fun k o v h => by rw [hh]; exact h) (fun _ _ => by rw [hρ]) hz (by rw [hsize]; exact Nat.le_refl _) (fun k hk => hoth k (fun e => hk (e ▸ hm))) (fun k o v hv => ?_) (fun j c0 hnn hc => ?_) (fun j c0 hj => ?_) (fun j j' hj hj' hjj => ?_) (fun t' k s e hzz => ?_) (fun t' t'' k s e s' e' h1 h2 => ?_) (fun t' k s e j hzz hj => ?_) (fun k hk => ?_) (fun k hk => by rw [hxu]; exact hk) (fun j c0 hj ws2 t2 f2 hh2 => ?_)
    rotate_left 7
    · rw [hxu] at hk
      obtain ⟨ws2, f2, h2⟩ := S.ws.uu k hk
      by_cases e : k = x.ρ i
      · rw [e, hg] at h2
        cases h2
        exact ⟨ws', _, by rw [e]; exact hblk⟩
      · exact ⟨ws2, f2, by rw [hoth k e]; exact h2⟩
    · rw [hwr] at hj
      by_cases e : i = j
      · subst e
        rw [hρ, hblk] at hh2
        cases hh2
        intro hp
        rw [hsz]
        rcases hpw hp with h | h
        · exact S.ws.kt i cs hb _ _ _ hg h
        · exact knAny_kn h _
      · rw [if_neg e] at hj; cases hj
    · rw [hh] at hv
      have hk : k ≠ x.ρ i := fun e => by rw [e, hn] at hv; cases hv
      rw [cell_of_block (w := w) (hoth k hk)]
      exact S.ws.agree k o v hv
    · rw [hwr] at hnn
      have hne : ¬ i = j := fun e => by rw [if_pos e] at hnn; cases hnn
      refine ⟨by simp, hoth _ (fun e => hne (S.ws.inj j i c0 cs hc hb e).symm), fun o => ?_⟩
      rw [hh]; exact (S.ws.box j c0 hc).2.1 o
    · rw [hwr] at hj
      by_cases e : i = j
      · subst e
        rw [if_pos rfl] at hj
        cases hj
        rw [hρ, hh]
        exact ⟨hm, hn, ws', wt, hblk, hr⟩
      · rw [if_neg e] at hj; cases hj
    · obtain ⟨c1, h1⟩ := hsome j hj
      obtain ⟨c2, h2⟩ := hsome j' hj'
      rw [hρ] at hjj
      exact S.ws.inj j j' c1 c2 h1 h2 hjj
    · have h0 := hf _ _ hzz
      obtain ⟨g1, g2, g3, wz, tz, g4, g5⟩ := S.ws.zone _ k s e h0
      refine ⟨g1, g2, fun o ho => by rw [hh]; exact g3 o ho, wz, tz, ?_, g5⟩
      rw [hoth k (fun e => S.ws.zbox _ k s _ i cs h0 hb e.symm)]
      exact g4
    · exact hfi t' t'' (by rw [h1]; simp) (by rw [h2]; simp) (S.ws.zinj _ _ k s e s' e' (hf _ _ h1) (hf _ _ h2))
    · obtain ⟨c1, h1⟩ := hsome j hj
      rw [hρ]
      exact S.ws.zbox _ k s e j c1 (hf _ _ hzz) h1
  · exact ⟨rfl, rfl, rfl, by rw [hsize]; exact Nat.le_refl _, fun k hk => hoth k (fun e => hk (e ▸ hm)), fun k o v h => by rw [hh]; exact h, fun k _ => by rw [hh], fun _ _ => by rw [hρ], fun k hk => by rw [hxu]; exact hk⟩
theorem op_store (htt : TTok P tt) (hI : Stable I B0) (S : Sim I B0 M nt x t b a w) (tq : TypeId) (y z : Operand) (h : DenN P tt X n Res (opEff tt ⟨dst, .store tq y z, ty, pos, after, guard⟩ (St.ev ⟨t, b⟩) (getB b)) r) : OpOK I B0 M P ⟨dst, .store tq y z, ty, pos, after, guard⟩ a x b w r := by
  have hy := S.ev y
  have hz := S.ev z
  simp only [opEff] at h
  split at h
  · rename_i ti i off e1 e2
    rw [e2] at hy
    have hp : a.eval y = .pointer (some ⟨x.ρ i, off, none⟩) := hy
    split at h
    · rename_i cs us e3 e4
      obtain ⟨hm, hn, ws, wt, hg, hrw⟩ := S.ws.box i cs e3
      have hru := (cellsOf_rep e4 hz).1
      have hsz := cells_size (htt _ _ e1) e4 hz
      have hone := cellsOf_one e4 hz
      have hlen : ws.size = cs.length := by rw [← Array.length_toList]; exact hrw.length
      have hul : (a.eval z).cells.size = us.length := by rw [← Array.length_toList]; exact hru.length
      have run : off + us.length ≤ cs.length → (execOp a.eval ⟨dst, .store tq y z, ty, pos, after, guard⟩).run P w = .ok .skip (w.setRow (x.ρ i) (putVs ws.toList off (a.eval z).cells.toList).toArray) := fun hle => by
        have := run_store_row (P := P) (htt _ _ e1) hg hsz hone (by rw [hul, hlen]; exact hle)
        simp only [execOp, hp]
        rw [Sem.run_bind, this]; rfl
      have hpl : ∀ m : List Value, off + m.length ≤ ws.toList.length → (putVs ws.toList off m).toArray.size = ws.size := fun m hm => by
        rw [putVs_eq _ _ _ hm]; simp at hm ⊢; omega
      split at h
      · rename_i k q es hle
        have hle := Nat.le_of_ble_eq_true hle
        obtain rfl := den_leaf h
        refine ⟨fun _ => ?_, fun u hu => by cases hu⟩
        let z' : Tok → Option (Nat × Nat × Nat) := fun t' => if t' = (i, off) then x.z k else if t' = k then none else x.z t'
        let x' : Aux := { x with z := z' }
        refine ⟨undef, x', _, .inr ⟨run hle, rfl⟩, EffOK.store S hI e3 hg (x' := x') (fun t' => if t' = (i, off) then k else t') rfl rfl rfl (fun t' ht' => ?_) (fun t' p hp' => ?_) (fun t' t'' h1 h2 h3 => ?_) (hpl _ (by simp only [Array.length_toList]; rw [hul, hlen]; exact hle)) ?_ ?_⟩
        · simp only [List.mem_cons, List.not_mem_nil, or_false, not_or] at ht'
          show z' t' = x.z t'
          simp [z', ht'.1, ht'.2]
        · show x.z (if t' = (i, off) then k else t') = some p
          have hp'' : z' t' = some p := hp'
          by_cases e : t' = (i, off)
          · simpa [z', e] using hp''
          · rw [if_neg e]
            simp only [z', if_neg e] at hp''
            split at hp''
            · cases hp''
            · exact hp''
        · have h1' : z' t' ≠ none := h1
          have h2' : z' t'' ≠ none := h2
          by_cases ea : t' = (i, off) <;> by_cases eb : t'' = (i, off)
          · rw [ea, eb]
          · rw [if_pos ea, if_neg eb] at h3
            exact absurd (by simp only [z', if_neg eb, if_pos h3.symm]) h2'
          · rw [if_neg ea, if_pos eb] at h3
            exact absurd (by simp only [z', if_neg ea, if_pos h3]) h1'
          · rw [if_neg ea, if_neg eb] at h3; exact h3
        · have hcl : RepVs x' (cleanVs [k, (i, off)] [] cs) ws.toList := RepVs.clean (x := x) (x' := x') (scr := [k, (i, off)]) (drp := []) (fun _ _ _ h => h) (fun _ _ => rfl) (fun t' ht' => by
            simp only [List.mem_cons, List.not_mem_nil, or_false, not_or] at ht'
            show z' t' = x.z t'
            simp [z', ht'.1, ht'.2]) (fun _ h => h) hrw
          refine setAt_rep hcl ?_
          obtain ⟨v0, l0, hv0, hr0, hnil⟩ := hru
          refine ⟨v0, l0, hv0, ?_, hnil⟩
          show RepOwn x' (i, off) q es v0
          rcases (show RepOwn x k q es v0 from hr0) with ⟨g1, g2, g3⟩ | ⟨bk, cap, g1, g2, g3⟩
          · exact .inl ⟨g1, g2, by show z' (i, off) = none; simp [z', g3]⟩
          · exact .inr ⟨bk, cap, g1, by show z' (i, off) = _; simp [z', g2], g3⟩
        · obtain ⟨v0, l0, hv0, hr0, hnil⟩ := hru
          intro hp
          rcases pw_put _ _ _ hp with h1 | ⟨v, m', _, e, hv⟩
          · exact .inl h1
          · rw [hv0] at e; cases e
            rw [np_rep (u := .own k q es) rfl hr0 []] at hv; cases hv
      · rename_i hle
        have hle := Nat.le_of_ble_eq_true hle
        split at h
        rotate_left
        · exact (den_fail h).elim
        rename_i hst
        obtain rfl := den_leaf h
        refine ⟨fun _ => ⟨undef, x, _, .inr ⟨run hle, rfl⟩, EffOK.store S hI e3 hg (x' := x) id rfl rfl rfl (fun _ _ => rfl) (fun _ _ h => h) (fun _ _ _ _ h => h) (hpl _ (by simp only [Array.length_toList]; rw [hul, hlen]; exact hle)) (setAt_rep hrw hru) (stOk_pw hst hrw hru)⟩, fun u hu => by cases hu⟩
      · exact (den_fail h).elim
    · exact (den_fail h).elim
  · exact (den_fail h).elim
end
end Go.Proofs.YtaddhpeainliiaaGreatDoor.Id
/-! ## IdealJ -/
namespace Go.Proofs.YtaddhpeainliiaaGreatDoor.Id
open Go
set_option linter.unusedSectionVars false
set_option linter.unusedVariables false
set_option linter.unusedSimpArgs false
section
variable {I : World → Prop} {B0 : Nat} {M : Nat → Prop} {P : Program} {tt : TT} {X : Given} {n nt : Nat} {x : Aux} {t : Tmps} {b : Boxes} {a : Act} {w : World}
variable [Ds]
variable {dst : Option Tmp} {ty : TypeId} {pos : String} {after : Array Edge} {guard : Option (Nat × Bool)} {r : Res}
theorem flat_get {α : Type} {m : Nat} : ∀ {es : List (List α)} {j i : Nat} {e : List α} {y : α}, (∀ e ∈ es, e.length = m) → es[j]? = some e → e[i]? = some y → es.flatten[j * m + i]? = some y
  | [], j, i, e, y, _, h, _ => by cases h
  | e0 :: es, 0, i, e, y, hl, h, hi => by
    simp only [List.getElem?_cons_zero, Option.some.injEq] at h
    subst h
    rw [List.flatten_cons, Nat.zero_mul, Nat.zero_add, List.getElem?_append_left (List.getElem?_eq_some_iff.1 hi).1]
    exact hi
  | e0 :: es, j + 1, i, e, y, hl, h, hi => by
    have h0 : e0.length = m := hl e0 (by simp)
    rw [List.flatten_cons, List.getElem?_append_right (by rw [h0, Nat.add_mul]; omega), h0, show (j + 1) * m + i - m = j * m + i by rw [Nat.add_mul]; omega]
    exact flat_get (fun e he => hl e (by simp [he])) (by simpa using h) hi
theorem flat_len {α : Type} {m : Nat} : ∀ {es : List (List α)}, (∀ e ∈ es, e.length = m) → es.flatten.length = es.length * m
  | [], _ => by simp
  | e :: es, h => by
    rw [List.flatten_cons, List.length_append, h e (by simp), flat_len (fun e he => h e (by simp [he])), List.length_cons, Nat.add_mul]
    omega
theorem RepDs.take_append {h : H} : ∀ {ds : List D} {l : List Value}, RepDs h ds l → ∀ {es : List D} {m : List Value}, RepDs h es m → RepDs h (ds ++ es) (l ++ m)
  | [], l, r, es, m, q => by have : l = [] := r; subst this; exact q
  | y :: ds, l, r, es, m, q => by obtain ⟨v, l0, rfl, h1, h2⟩ := r; exact ⟨v, l0 ++ m, rfl, h1, h2.take_append q⟩
theorem hd8_nil : ¬ hd8 [] := fun ⟨_, _, h⟩ => by cases h
theorem okHd_spec {e n : Nat} {es ys : List (List D)} (h : okHd e n es ys = true) (hl : ∀ q ∈ es ++ ys, q.length = n) (h8 : hd8 (es ++ ys)) : e = u8t := by
  obtain ⟨c, r, hc⟩ := h8
  unfold okHd at h
  split at h
  · rename_i he; exact Nat.eq_of_beq_eq_true he
  · split at h
    · rename_i hn
      have := hl [.int .u8 c] (by rw [hc]; simp)
      have hn1 : n = 1 := this.symm
      subst hn1
      cases hn
    · split at h
      · have hc : ys = [.int .u8 c] :: r := hc
        rw [hc] at h; cases h
      · cases es with
        | nil => rename_i hne; exact absurd rfl hne
        | cons q es =>
          rw [List.cons_append] at hc
          injection hc with h1 h2
          rw [h1] at h; cases h
/-- a new row: its first cells are settled, what is behind may be a token's -/
theorem EffOK.newRow (S : Sim I B0 M nt x t b a w) (hI : Stable I B0) {w' : World} {o : Obj} (hheap : ∀ k, k < w.heap.size → w'.heap[k]? = w.heap[k]?) (hnew : w'.heap[w.heap.size]? = some o) (hsz : w.heap.size < w'.heap.size)
    (h1 : w'.os = w.os) (h2 : w'.tape = w.tape) (h3 : w'.output = w.output) (m : Nat) (es : List (List D)) (vs : List Value) (hl : ∀ e ∈ es, e.length = m) (hr : RepDs x.h es.flatten vs) (hc : ∀ (j : Nat) v, vs[j]? = some v → w'.cell? ⟨w.heap.size, j, none⟩ = some v)
    (cap : Nat) (hcap : es.length ≤ cap) (tok : Option Tok) (htok : tok ≠ none → ∃ ws ty, o = .cells ws ty (0, 0) ∧ ws.size = cap * m) (scr : List Tok) (hscr : ∀ k, tok = some k → k ∈ scr) (u : V) (hu : (u = .d (.sl m es)) ∨ ∃ k, tok = some k ∧ u = .own k m es) (hu8 : tok ≠ none → hd8 es → ∃ ws f, o = .cells ws u8t f) (hc0 : tok ≠ none → es = [] → cap = 0) :
    ∃ x', EffOK I B0 M x b { v := u, scr := scr } w (.slice (some ⟨w.heap.size, 0, none⟩) es.length cap) x' w' := by
  let g := w.heap.size
  let h' : H := fun k q => if k = w.heap.size then vs[q]? else x.h k q
  let z' : Tok → Option (Nat × Nat × Nat) := fun t' => if tok = some t' then some (w.heap.size, es.length * m, cap * m) else if t' ∈ scr then none else x.z t'
  have hsub : ∀ k q v, x.h k q = some v → h' k q = some v := fun k q v hv => by
    show (if k = w.heap.size then vs[q]? else x.h k q) = some v
    have hk : k ≠ w.heap.size := fun e => by subst e; rw [S.ws.h_none (Nat.le_refl _)] at hv; cases hv
    rw [if_neg hk]; exact hv
  have hvl : vs.length = es.length * m := by rw [hr.length, flat_len hl]
  have hrep : RepD h' (.slice (some ⟨w.heap.size, 0, none⟩) es.length cap) (.sl m es) := by
    refine .sl _ cap m es (fun j i => (vs[j * m + i]?).getD undef) (fun _ => rfl) hcap (fun j e he => hl e (List.mem_of_getElem? he)) (fun j e i y he hy => ?_) (fun j e i y he hy => ?_)
    · obtain ⟨v, g1, _⟩ := hr.get (flat_get hl he hy)
      show (if w.heap.size = w.heap.size then vs[0 + (j * m + i)]? else _) = _
      rw [if_pos rfl, Nat.zero_add, g1]; rfl
    · obtain ⟨v, g1, g2⟩ := hr.get (flat_get hl he hy)
      simp only [g1, Option.getD_some]
      exact g2.mono hsub
  let u' : Nat → Prop := fun k => x.u k ∨ (k = w.heap.size ∧ ∃ ws f, o = .cells ws u8t f)
  refine ⟨{ x with h := h', z := z', u := u' }, hsub, fun _ _ => rfl, fun t' ht' => ?_, fun b1 hb => ?_, ?_, ?_, fun _ h => .inl h⟩
  · show z' t' = x.z t'
    have : tok ≠ some t' := fun e => ht' (hscr t' e)
    simp [z', this, ht']
  · have hz : ∀ t' k s e, z' t' = some (k, s, e) → (tok = some t' ∧ k = w.heap.size ∧ s = es.length * m ∧ e = cap * m) ∨ (tok ≠ some t' ∧ x.z t' = some (k, s, e)) := fun t' k s e h => by
      simp only [z'] at h
      split at h
      · cases h; exact .inl ⟨by assumption, rfl, rfl, rfl⟩
      · split at h
        · cases h
        · exact .inr ⟨by assumption, h⟩
    refine S.ws.step (wr := []) (x' := { x with h := h', z := z', u := u' }) hI hb hsub (fun _ _ => rfl) (fun t' ht' => ?_) (by omega) (fun k hk => ?_) (fun k q v hv => ?_) (fun i c0 hn hc0 => ?_) (fun i c0 hn => by cases hn) (fun i j hi hj hij => ?_) (fun t' k s e hzz => ?_) (fun t' t'' k s e s' e' g1 g2 => ?_) (fun t' k s e i hzz hi => ?_) (fun k hk => ?_) (fun _ h => .inl h) (fun i c0 hn => by cases hn)
    rotate_left 8
    · rcases hk with hk | ⟨rfl, ws, f, ho⟩
      · obtain ⟨ws, f, h9⟩ := S.ws.uu k hk
        exact ⟨ws, f, by rw [hheap k (heap_lt h9)]; exact h9⟩
      · exact ⟨ws, f, by rw [hnew, ho]⟩
    · show z' t' = x.z t'
      have : tok ≠ some t' := fun e => ht' (hscr t' e)
      simp [z', this, ht']
    · rcases Nat.lt_or_ge k w.heap.size with g | g
      · exact hheap k g
      · exact absurd (S.ws.top k g) hk
    · have hv' : (if k = w.heap.size then vs[q]? else x.h k q) = some v := hv
      split at hv'
      · rename_i e; subst e; exact hc q v hv'
      · have hcc := S.ws.agree k q v hv'
        rw [cell_of_block (w := w) (hheap k (cell_lt hcc))]; exact hcc
    · refine ⟨by simp, hheap _ (S.ws.lt hc0), fun q => ?_⟩
      show (if x.ρ i = w.heap.size then vs[q]? else x.h (x.ρ i) q) = none
      rw [if_neg (by have := S.ws.lt hc0; omega)]
      exact (S.ws.box i c0 hc0).2.1 q
    · have hi' := hi.resolve_left (by simp [getB])
      have hj' := hj.resolve_left (by simp [getB])
      cases h4 : getB b i with
      | none => exact absurd h4 hi'
      | some c1 =>
        cases h5 : getB b j with
        | none => exact absurd h5 hj'
        | some c2 => exact S.ws.inj i j c1 c2 h4 h5 hij
    · rcases hz _ _ _ _ hzz with ⟨g1, rfl, rfl, rfl⟩ | ⟨g1, g2⟩
      · obtain ⟨ws, ty', ho, hws⟩ := htok (by rw [g1]; simp)
        refine ⟨S.ws.top _ (Nat.le_refl _), Nat.mul_le_mul_right _ hcap, fun q hq => ?_, ws, ty', by rw [hnew, ho], hws⟩
        show (if w.heap.size = w.heap.size then vs[q]? else _) = none
        rw [if_pos rfl]
        exact List.getElem?_eq_none (by omega)
      · obtain ⟨q1, q2, q3, ws, ty', q4, q5⟩ := S.ws.zone _ k s e g2
        have hk := S.ws.zlt g2
        refine ⟨q1, q2, fun q hq => ?_, ws, ty', by rw [hheap k hk]; exact q4, q5⟩
        show (if k = w.heap.size then vs[q]? else x.h k q) = none
        rw [if_neg (by omega)]; exact q3 q hq
    · rcases hz _ _ _ _ g1 with ⟨e1, e2, _⟩ | ⟨e1, e2⟩ <;> rcases hz _ _ _ _ g2 with ⟨e3, e4, _⟩ | ⟨e3, e4⟩
      · rw [e1] at e3; exact Option.some.inj e3
      · have := S.ws.zlt e4; omega
      · have := S.ws.zlt e2; omega
      · exact S.ws.zinj _ _ k s e s' e' e2 e4
    · have hi' := hi.resolve_left (by simp [getB])
      cases h4 : getB b i with
      | none => exact absurd h4 hi'
      | some c1 =>
        rcases hz _ _ _ _ hzz with ⟨_, rfl, _⟩ | ⟨_, g2⟩
        · have := S.ws.lt h4; show x.ρ i ≠ _; omega
        · exact S.ws.zbox _ k s e i c1 g2 h4
  · refine ⟨h1, h2, h3, by omega, fun k hk => ?_, hsub, fun k hk => ?_, fun _ _ => rfl, fun _ h => .inl h⟩
    · rcases Nat.lt_or_ge k w.heap.size with g | g
      · exact hheap k g
      · exact absurd (S.ws.top k g) hk
    · funext q
      show (if k = w.heap.size then vs[q]? else x.h k q) = x.h k q
      rw [if_neg (fun e => hk (S.ws.top k (by omega)))]
  · rcases hu with rfl | ⟨k, hk, rfl⟩
    · exact hrep
    · refine .inr ⟨w.heap.size, cap, rfl, ?_, hrep, fun h8 => .inr ⟨rfl, hu8 (by rw [hk]; simp) h8⟩, hc0 (by rw [hk]; simp)⟩
      show z' k = _
      simp [z', hk]
/-! ### literals -/
theorem setEs_length : ∀ (es : List (List D)) (i : Nat) (e : List D), (setEs es i e).length = es.length
  | [], i, e => rfl
  | c :: cs, 0, e => rfl
  | c :: cs, i + 1, e => by simp [setEs, setEs_length cs i e]
theorem setEs_len {m : Nat} {e : List D} (he : e.length = m) : ∀ (es : List (List D)) (i : Nat), (∀ q ∈ es, q.length = m) → ∀ q ∈ setEs es i e, q.length = m
  | [], i, h => h
  | c :: cs, 0, h => fun q hq => by
    cases hq with
    | head => exact he
    | tail _ hq => exact h q (List.mem_cons_of_mem _ hq)
  | c :: cs, i + 1, h => fun q hq => by
    cases hq with
    | head => exact h c (by simp)
    | tail _ hq => exact setEs_len he cs i (fun q hq => h q (by simp [hq])) q hq
theorem setDs_app : ∀ (a b : List D) (i : Nat) (e : List D), setDs (a ++ b) (a.length + i) e = a ++ setDs b i e
  | [], b, i, e => by simp
  | y :: a, b, i, [] => by
    have : ∀ (l : List D) (i : Nat), setDs l i [] = l := fun l i => by cases l <;> cases i <;> rfl
    rw [this, this]
  | y :: a, b, i, z :: e => by
    rw [List.cons_append, show (y :: a).length + i = (a.length + i) + 1 by simp; omega]
    show y :: setDs (a ++ b) (a.length + i) (z :: e) = _
    rw [setDs_app a b i (z :: e)]; rfl
theorem setDs_head : ∀ (a b e : List D), e.length = a.length → setDs (a ++ b) 0 e = e ++ b
  | [], b, [], _ => by cases b <;> rfl
  | [], b, _ :: _, h => by simp at h
  | y :: a, b, [], h => by simp at h
  | y :: a, b, z :: e, h => by
    show z :: setDs (a ++ b) 0 e = _
    rw [setDs_head a b e (by simpa using h)]; rfl
theorem setEs_flat {m : Nat} {e : List D} (he : e.length = m) : ∀ (es : List (List D)) (i : Nat), (∀ q ∈ es, q.length = m) → i < es.length → (setEs es i e).flatten = setDs es.flatten (i * m) e
  | [], i, h, hi => by simp at hi
  | c :: cs, 0, h, hi => by
    rw [Nat.zero_mul, List.flatten_cons, setDs_head c _ e (by rw [he, h c (by simp)])]
    rfl
  | c :: cs, i + 1, h, hi => by
    have hc : c.length = m := h c (by simp)
    show c ++ (setEs cs i e).flatten = _
    rw [setEs_flat he cs i (fun q hq => h q (by simp [hq])) (by simp at hi; omega), List.flatten_cons, show (i + 1) * m = c.length + i * m by rw [hc, Nat.add_mul]; omega, setDs_app]
theorem norm_length (l : List D) : (l.map D.norm).length = l.length := by simp
theorem fillS_rep (htt : TTok P tt) (S : Sim I B0 M nt x t b a w) {te : TI} {et : Nat} {m : Nat} (hte : TIok P et te) (hm : te.n = m) :
    ∀ (ps : List (Nat × Operand)) (es es' : List (List D)) (cs : Array Value), fillS tt te m (ps.map fun p => (p.1, St.ev ⟨t, b⟩ p.2)) es = some es' → (∀ q ∈ es, q.length = m) → RepDs x.h es.flatten cs.toList →
      ∃ cs', Instr.fill (fun i => some (i * m, m)) cs (ps.map fun p => (p.1, a.eval p.2)) = some cs' ∧ RepDs x.h es'.flatten cs'.toList ∧ (∀ q ∈ es', q.length = m) ∧ es'.length = es.length
  | [], es, es', cs, h, hl, r => by cases h; exact ⟨cs, rfl, r, hl, rfl⟩
  | (i, y) :: ps, es, es', cs, h, hl, r => by
    simp only [List.map_cons, fillS] at h
    cases h3 : cellsOf te (St.ev ⟨t, b⟩ y) with
    | none => rw [h3] at h; cases h
    | some us =>
      rw [h3] at h
      simp only at h
      cases h4 : toDs us with
      | none => rw [h4] at h; cases h
      | some xs =>
        rw [h4] at h
        simp only at h
        split at h
        · rename_i g1 g2
          have g1 := Nat.eq_of_beq_eq_true g1
          have g2 : i < es.length := by simpa [Nat.blt_eq] using g2
          have hsz := cells_size hte h3 (S.ev y)
          have hrx := (toDs_rep h4 (cellsOf_rep h3 (S.ev y)).1).norm
          have hlen : cs.size = es.length * m := by rw [← Array.length_toList, r.length, flat_len hl]
          have hxl : (a.eval y).cells.toList.length = m := by rw [hrx.length, norm_length, g1]
          have hfit : i * m + m ≤ es.length * m := by
            have : (i + 1) * m ≤ es.length * m := Nat.mul_le_mul_right _ g2
            rw [Nat.add_mul] at this; omega
          have hfold := fold_put (a.eval y).cells.toList (i * m) 0 cs (by rw [hxl, hlen]; omega)
          have hel : (xs.map D.norm).length = m := by rw [norm_length, g1]
          obtain ⟨cs', k1, k2, k3, k4⟩ := fillS_rep htt S hte hm ps (setEs es i (xs.map D.norm)) es' (((a.eval y).cells.toList.zipIdx 0).foldl (fun cs (p : Value × Nat) => cs.setIfInBounds (i * m + p.2) p.1) cs) h (setEs_len hel es i hl) (by
            rw [hfold, setEs_flat hel es i hl g2]; exact setDs_rep r hrx)
          refine ⟨cs', ?_, k2, k3, by rw [k4, setEs_length]⟩
          have hcsz : (a.eval y).cells.size = m := by rw [← Array.length_toList]; exact hxl
          simp only [List.map_cons, Instr.fill]
          rw [if_neg (by simp only [hcsz, ne_eq, not_true_eq_false, decide_false, Bool.false_or, decide_eq_true_eq, Bool.or_eq_true, Nat.not_lt]; omega)]
          rw [← k1, ← Array.foldl_toList]
          simp
        · cases h
theorem zero_rows (l : List Value) (hl : 0 < l.length) : ∀ k : Nat, (List.range (k * l.length)).map (fun i => l[i % l.length]!) = (List.replicate k l).flatten
  | 0 => by simp
  | k + 1 => by
    rw [Nat.add_mul, Nat.one_mul, List.range_add, List.map_append, zero_rows l hl k, List.replicate_succ', List.flatten_append]
    congr 1
    simp only [List.flatten_cons, List.flatten_nil, List.append_nil, List.map_map]
    apply List.ext_getElem
    · simp
    · intro i h1 h2
      simp only [List.getElem_map, List.getElem_range, Function.comp_apply]
      rw [Nat.mul_comm k, Nat.mul_add_mod, Nat.mod_eq_of_lt h2]
      simp [h2]
theorem rep_zero {h : H} {zs : List D} {l : List Value} (r : RepDs h zs l) : ∀ k : Nat, RepDs h (List.replicate k zs).flatten (List.replicate k l).flatten
  | 0 => by simp [RepDs]
  | k + 1 => by rw [List.replicate_succ, List.replicate_succ, List.flatten_cons, List.flatten_cons]; exact r.take_append (rep_zero r k)
theorem op_buildSlice (htt : TTok P tt) (hI : Stable I B0) (S : Sim I B0 M nt x t b a w) (tq : TypeId) (len : Nat) (ps : Array (Nat × Operand)) (h : DenN P tt X n Res (opEff tt ⟨dst, .buildSlice tq len ps, ty, pos, after, guard⟩ (St.ev ⟨t, b⟩) (getB b)) r) : OpOK I B0 M P ⟨dst, .buildSlice tq len ps, ty, pos, after, guard⟩ a x b w r := by
  simp only [opEff] at h
  split at h
  · rename_i d e m by0 n1 zero cmp e1
    obtain ⟨hu, _, ⟨ie, z, hie, hsz, hby, hz, hzs, hm0, hb0⟩, _⟩ := (htt _ _ e1).kind
    split at h
    · rename_i te e2
      obtain ⟨ie', z', hie', hsz', hz', hzr⟩ := (htt _ _ e2).info
      rw [hie] at hie'
      cases hie'
      rw [hz] at hz'
      cases hz'
      split at h
      · rename_i zs e3
        split at h
        · rename_i es g1 g2
          have g1 := Nat.le_of_ble_eq_true g1
          split at h
          rotate_left
          · exact (den_fail h).elim
          rename_i hok
          obtain rfl := den_leaf h
          have hrz := toDs_rep e3 (hzr x)
          have hzl : zs.length = m := by rw [← hrz.length]; simpa using hzs
          have hinit : ((Array.range (len * ie.size)).map (z.cells[· % z.cells.size]!)).toList = (List.replicate len z.cells.toList).flatten := by
            have := zero_rows z.cells.toList (by simp [hzs]; exact hm0) len
            rw [← this]
            simp only [Array.toList_map, Array.toList_range, Array.length_toList, hzs, hsz]
            apply List.map_congr_left
            intro i hi
            have hlt : i % m < z.cells.size := by rw [hzs]; exact Nat.mod_lt _ hm0
            simp [hlt]
          obtain ⟨cs', k1, k2, k3, k4⟩ := fillS_rep htt S (htt _ _ e2) (by rw [← hsz', hsz]) ps.toList (List.replicate len zs) es ((Array.range (len * ie.size)).map (z.cells[· % z.cells.size]!)) g2 (fun q hq => by rw [(List.mem_replicate.1 hq).2]; exact hzl) (by rw [hinit]; exact rep_zero hrz len)
          have hel : es.length = len := by rw [k4]; simp
          refine ⟨fun _ => ?_, fun u hu => by cases hu⟩
          have hcs : cs'.toList.length = len * m := by rw [k2.length, flat_len k3, hel]
          by_cases hpos : len * ie.size = 0
          · have hlen0 : len = 0 := by
              rcases Nat.mul_eq_zero.1 hpos with h | h
              · exact h
              · omega
            subst hlen0
            have hes : es = [] := List.eq_nil_of_length_eq_zero hel
            subst hes
            have hcs0 : cs' = #[] := by
              have : cs'.toList = [] := List.eq_nil_of_length_eq_zero (by rw [hcs]; simp)
              exact Array.toList_eq_nil_iff.1 this
            subst hcs0
            obtain ⟨x', hx⟩ := EffOK.newRow S hI (w' := w.alloc (.cells #[] e)) (o := .cells #[] e) (fun k hk => push_lt hk) push_eq (by simp) rfl rfl rfl m [] [] (by simp) rfl (by simp) 0 (Nat.le_refl _) (some (d, here)) (fun _ => ⟨#[], e, rfl, by simp⟩) [(d, here)] (fun k hk => by cases hk; simp) (.own (d, here) m []) (.inr ⟨_, rfl, rfl⟩) (fun _ h => absurd h hd8_nil) (fun _ _ => rfl)
            refine ⟨_, x', _, .inl ?_, hx⟩
            have hf : Instr.fill (fun i => some (i * ie.size, ie.size)) #[] (ps.toList.map fun p => (p.1, a.eval p.2)) = some #[] := by
              rw [hsz]
              have : ((Array.range (0 * ie.size)).map (z.cells[· % z.cells.size]!)) = #[] := by simp
              rw [this] at k1; exact k1
            have : (Instr.buildSlice tq 0 (ps.map fun (i, y) => (i, a.eval y))).run P w = .ok (.slice (some ⟨w.heap.size, 0, none⟩) 0 0) (w.alloc (.cells #[] e)) := by
              have hr0 : Array.range 0 = #[] := by simp
              simp [Instr.buildSlice, run_underlying hu, sizeOf, typeInfo, hie, newRow, hf, hr0]
            simp only [execOp]
            rw [Sem.run_bind, this]; rfl
          · obtain ⟨x', hx⟩ := EffOK.newRow S hI (w' := w.alloc (.cells cs' e)) (o := .cells cs' e) (fun k hk => push_lt hk) push_eq (by simp) rfl rfl rfl m es cs'.toList k3 k2 (fun j v hv => by
              have h1 : (w.alloc (.cells cs' e)).heap[w.heap.size]? = some (.cells cs' e (0, 0)) := push_eq
              rw [Array.getElem?_toList] at hv
              simp only [World.cell?, h1]
              simpa using hv) len (by omega) (some (d, here)) (fun _ => ⟨cs', e, rfl, by rw [← Array.length_toList]; exact hcs⟩) [(d, here)] (fun k hk => by cases hk; simp) (.own (d, here) m es) (.inr ⟨_, rfl, rfl⟩) (fun _ h8 => ⟨cs', (0, 0), by rw [okHd_spec hok (by simpa using k3) (by simpa using h8)]⟩) (fun _ he => by rw [← hel, he]; rfl)
            rw [hel] at hx
            refine ⟨_, x', _, .inl ?_, hx⟩
            have := run_buildSlice (P := P) w tq e len (ps.map fun (i, y) => (i, a.eval y)) cs' ie z hu hie hz (by rw [hsz]; omega) hpos (by rw [hsz] at k1 ⊢; rw [Array.toList_map]; exact k1)
            simp only [execOp]
            rw [Sem.run_bind, this]; rfl
        · exact (den_fail h).elim
      · exact (den_fail h).elim
    · exact (den_fail h).elim
  · exact (den_fail h).elim
end
end Go.Proofs.YtaddhpeainliiaaGreatDoor.Id
/-! ## IdealK -/
namespace Go.Proofs.YtaddhpeainliiaaGreatDoor.Id
open Go
set_option linter.unusedSectionVars false
set_option linter.unusedVariables false
set_option linter.unusedSimpArgs false
section
variable {I : World → Prop} {B0 : Nat} {M : Nat → Prop} {P : Program} {tt : TT} {X : Given} {n nt : Nat} {x : Aux} {t : Tmps} {b : Boxes} {a : Act} {w : World}
variable [Ds]
variable {dst : Option Tmp} {ty : TypeId} {pos : String} {after : Array Edge} {guard : Option (Nat × Bool)} {r : Res}
/-- no row of so many zeros is meant -/
def plainTy (P : Program) (u : TypeId) : Prop := P.underlying u = some .string ∨ ∃ e, P.underlying u = some (.slice e)
theorem run_append_stay (tq u tr e : TypeId) (i : TypeInfo) (ht : P.underlying tq = some (.slice e)) (hu : plainTy P u) (hi : P.info? e = some i) (g sLen sCap m : Nat) (cur : Array Value) (et : TypeId) (hg : w.heap[g]? = some (.cells cur et (0, 0)))
    (y : Value) (news : List Value) (hlen : (Builtin.lenOf y).run P w = .ok m w) (hfc : (Builtin.firstCells i.size m y).run P w = .ok news.toArray w) (h1 : ∀ u ∈ news, u.oneCell' = true) (hroom : sLen + m ≤ sCap) (hfit : sLen * i.size + news.length ≤ cur.size) :
    (Builtin.append_ #[tq, u] tr #[.slice (some ⟨g, 0, none⟩) sLen sCap, y]).run P w = .ok (.slice (some ⟨g, 0, none⟩) (sLen + m) sCap) (w.setRow g (putVs cur.toList (sLen * i.size) news).toArray) := by
  have hst := run_storeCells_at P g (sLen * i.size) et news 0 cur w hg (by simpa using hfit) h1
  simp only [Nat.add_zero] at hst
  rw [putVs_eq _ _ _ (by simpa using hfit)]
  rcases hu with hd | ⟨e', hd⟩
  all_goals simp [Builtin.append_, run_underlying ht, run_underlying hd, sizeOf, typeInfo, hi, hlen, hfc, hroom, Addr.add_lit, hst]
theorem run_append_none (tq u tr e : TypeId) (i : TypeInfo) (ht : P.underlying tq = some (.slice e)) (hu : plainTy P u) (hi : P.info? e = some i)
    (y : Value) (hlen : (Builtin.lenOf y).run P w = .ok 0 w) (hfc : (Builtin.firstCells i.size 0 y).run P w = .ok #[] w) :
    (Builtin.append_ #[tq, u] tr #[.slice none 0 0, y]).run P w = .ok (.slice none 0 0) w := by
  rcases hu with hd | ⟨e', hd⟩
  all_goals simp [Builtin.append_, run_underlying ht, run_underlying hd, sizeOf, typeInfo, hi, hlen, hfc]
theorem run_append_new (tq u tr e : TypeId) (i : TypeInfo) (z : Value) (ht : P.underlying tq = some (.slice e)) (hu : plainTy P u) (hi : P.info? e = some i) (hz : i.zero = some z) (s : Value) (ad : Option Addr) (sLen sCap m : Nat) (hs : s = .slice ad sLen sCap)
    (y : Value) (olds news : List Value) (hlen : (Builtin.lenOf y).run P w = .ok m w) (hfc : (Builtin.firstCells i.size m y).run P w.drew = .ok news.toArray w.drew) (hfo : (Builtin.firstCells i.size sLen s).run P w.drew = .ok olds.toArray w.drew)
    (hg : sCap < sLen + m) (h63 : ((sLen + m : Nat) : Int) ≤ 9223372036854775807) (hfit : Builtin.nextslicecap (sLen + m) sCap * i.bytes ≤ 281474976710656) :
    (Builtin.append_ #[tq, u] tr #[s, y]).run P w = .ok (.slice (some ⟨w.heap.size, 0, none⟩) (sLen + m) (grownCap w (sLen + m) sCap e))
      (w.drew.alloc (.cells (olds.toArray ++ news.toArray ++ Builtin.zeroCells z.cells (grownCap w (sLen + m) sCap e - (sLen + m))) e)) := by
  subst hs
  have hn : ¬ (sLen + m ≤ sCap) := by omega
  have h63' : ¬ (9223372036854775807 < ((sLen : Int) + (m : Int))) := by omega
  have h48' : ¬ (281474976710656 < Builtin.nextslicecap (sLen + m) sCap * i.bytes) := by omega
  rcases hu with hd | ⟨e', hd⟩
  all_goals
    simp [Builtin.append_, run_underlying ht, run_underlying hd, sizeOf, typeInfo, zeroValue, hi, hz, hlen, hn, h63', h48', Question.forced, hfc, hfo, newRow, grownCap]
    congr 2
    apply Array.ext'
    simp
/-- in place: the row's room shrinks -/
theorem EffOK.stay (S : Sim I B0 M nt x t b a w) (hI : Stable I B0) {k : Tok} {m : Nat} {es ys : List (List D)} {g cap : Nat} {cur : Array Value} {et : TypeId} {news : List Value}
    (hz : x.z k = some (g, es.length * m, cap * m)) (hg : w.heap[g]? = some (.cells cur et (0, 0))) (hcur : cur.size = cap * m) (hes : RepD x.h (.slice (some ⟨g, 0, none⟩) es.length cap) (.sl m es)) (hyl : ∀ e ∈ ys, e.length = m) (hr : RepDs x.h ys.flatten news)
    (hroom : es.length + ys.length ≤ cap) (hg8 : hd8 es → x.u g) (hc0 : es = [] → cap = 0) :
    ∃ x', EffOK I B0 M x b { v := .own k m (es ++ ys), scr := [k] } w (.slice (some ⟨g, 0, none⟩) (es.length + ys.length) cap) x' (w.setRow g (putVs cur.toList (es.length * m) news).toArray) := by
  have hnl : news.length = ys.length * m := by rw [hr.length, flat_len hyl]
  have hfit : es.length * m + news.length ≤ cur.toList.length := by
    have hcl : cur.toList.length = cap * m := by rw [Array.length_toList, hcur]
    rw [hnl, hcl, ← Nat.add_mul]; exact Nat.mul_le_mul_right _ hroom
  obtain ⟨hm, _, hn, _⟩ := S.ws.zone k g _ _ hz
  let ws' : Array Value := (putVs cur.toList (es.length * m) news).toArray
  have hblk : (w.setRow g ws').heap[g]? = some (.cells ws' et (0, 0)) := setRow_heap w g cur _ et _ hg
  have hoth : ∀ q, q ≠ g → (w.setRow g ws').heap[q]? = w.heap[q]? := fun q hq => setRow_other w g q _ (fun e => hq (by first | exact e | exact e.symm))
  have hsize : (w.setRow g ws').heap.size = w.heap.size := by simp [World.setRow]
  have hws : ws'.size = cur.size := by
    show (putVs cur.toList (es.length * m) news).toArray.size = _
    rw [putVs_eq _ _ _ hfit]; simp at hfit ⊢; omega
  let h' : H := fun q o => if q = g ∧ es.length * m ≤ o ∧ o < es.length * m + news.length then news[o - es.length * m]? else x.h q o
  let z' : Tok → Option (Nat × Nat × Nat) := fun t' => if t' = k then some (g, (es.length + ys.length) * m, cap * m) else x.z t'
  have hsub : ∀ q o v, x.h q o = some v → h' q o = some v := fun q o v hv => by
    show (if q = g ∧ es.length * m ≤ o ∧ o < es.length * m + news.length then news[o - es.length * m]? else x.h q o) = some v
    split
    · rename_i h; obtain ⟨rfl, h1, _⟩ := h; rw [hn o h1] at hv; cases hv
    · exact hv
  have hrep : RepD h' (.slice (some ⟨g, 0, none⟩) (es ++ ys).length cap) (.sl m (es ++ ys)) := by
    rcases hes.slice with ⟨h0, _⟩ | ⟨ad, cap', vs, e0, _, _, hn1, hh, hrr⟩
    · cases h0
    · cases e0
      refine .sl _ cap m (es ++ ys) (fun j i => if j < es.length then vs j i else (news[(j - es.length) * m + i]?).getD undef) (fun _ => rfl) (by simpa using hroom) (fun j e he => ?_) (fun j e i y he hy => ?_) (fun j e i y he hy => ?_)
      · rcases Nat.lt_or_ge j es.length with hj | hj
        · rw [List.getElem?_append_left hj] at he; exact hn1 j e he
        · rw [List.getElem?_append_right hj] at he; exact hyl e (List.mem_of_getElem? he)
      · rcases Nat.lt_or_ge j es.length with hj | hj
        · rw [List.getElem?_append_left hj] at he
          simp only [if_pos hj]
          exact hsub _ _ _ (hh j e i y he hy)
        · rw [List.getElem?_append_right hj] at he
          simp only [if_neg (Nat.not_lt.2 hj)]
          obtain ⟨v, g1, _⟩ := hr.get (flat_get hyl he hy)
          have hlt : (j - es.length) * m + i < news.length := (List.getElem?_eq_some_iff.1 g1).1
          have hjm : j * m = es.length * m + (j - es.length) * m := by rw [← Nat.add_mul]; congr 1; omega
          show (if g = g ∧ es.length * m ≤ 0 + (j * m + i) ∧ 0 + (j * m + i) < es.length * m + news.length then news[0 + (j * m + i) - es.length * m]? else _) = _
          rw [if_pos ⟨rfl, by omega, by omega⟩, show 0 + (j * m + i) - es.length * m = (j - es.length) * m + i by omega, g1]; rfl
      · rcases Nat.lt_or_ge j es.length with hj | hj
        · rw [List.getElem?_append_left hj] at he
          simp only [if_pos hj]
          exact (hrr j e i y he hy).mono hsub
        · rw [List.getElem?_append_right hj] at he
          simp only [if_neg (Nat.not_lt.2 hj)]
          obtain ⟨v, g1, g2⟩ := hr.get (flat_get hyl he hy)
          simp only [g1, Option.getD_some]
          exact g2.mono hsub
  refine ⟨{ x with h := h', z := z' }, hsub, fun _ _ => rfl, fun t' ht' => ?_, fun b1 hb => ?_, ?_, ?_, fun _ h => h⟩
  · show (if t' = k then _ else x.z t') = x.z t'
    rw [if_neg (by simpa using ht')]
  · have hzz : ∀ t' q s e, z' t' = some (q, s, e) → (t' = k ∧ q = g ∧ s = (es.length + ys.length) * m ∧ e = cap * m) ∨ (t' ≠ k ∧ x.z t' = some (q, s, e)) := fun t' q s e h => by
      simp only [z'] at h
      split at h
      · cases h; exact .inl ⟨by assumption, rfl, rfl, rfl⟩
      · exact .inr ⟨by assumption, h⟩
    have hne : ∀ t' q s e, t' ≠ k → x.z t' = some (q, s, e) → q ≠ g := fun t' q s e h1 h2 e0 => by subst e0; exact h1 (S.ws.zinj _ _ _ _ _ _ _ h2 hz)
    have hbx : ∀ i c, getB b i = some c → x.ρ i ≠ g := fun i c hc => S.ws.zbox k g _ _ i c hz hc
    have hsome : ∀ i, (getB ([] : Boxes) i ≠ none ∨ getB b i ≠ none) → ∃ c, getB b i = some c := fun i hi => by
      cases h4 : getB b i with
      | some c => exact ⟨c, rfl⟩
      | none => exact absurd h4 (hi.resolve_left (by simp [getB]))
    refine S.ws.step (wr := []) (x' := { x with h := h', z := z' }) hI hb hsub (fun _ _ => rfl) (fun t' ht' => ?_) (by rw [hsize]; exact Nat.le_refl _) (fun q hq => hoth q (fun e => hq (e ▸ hm))) (fun q o v hv => ?_) (fun i c0 _ hc0 => ?_) (fun i c0 hn => by cases hn) (fun i j hi hj hij => ?_) (fun t' q s e hq => ?_) (fun t' t'' q s e s' e' g1 g2 => ?_) (fun t' q s e i hq hi => ?_) (fun q hq => (let ⟨ws2, f2, h2⟩ := S.ws.uu q hq; if e : q = g then ⟨ws', (0, 0), by rw [e, hg] at h2; cases h2; rw [e]; exact hblk⟩ else ⟨ws2, f2, by rw [hoth q e]; exact h2⟩)) (fun _ h => h) (fun i c0 hn => by cases hn)
    · show (if t' = k then _ else x.z t') = x.z t'
      rw [if_neg (by simpa using ht')]
    · have hv' : (if q = g ∧ es.length * m ≤ o ∧ o < es.length * m + news.length then news[o - es.length * m]? else x.h q o) = some v := hv
      split at hv'
      · rename_i h; obtain ⟨e0, h1, h2⟩ := h
        have hb2 : (w.setRow g (putVs cur.toList (es.length * m) news).toArray).heap[g]? = some (.cells ws' et (0, 0)) := hblk
        rw [e0]
        unfold World.cell?
        rw [hb2]
        have : ws'[o]? = some v := by
          show (putVs cur.toList (es.length * m) news).toArray[o]? = some v
          rw [putVs_eq _ _ _ hfit, List.getElem?_toArray, List.append_assoc, List.getElem?_append_right (by rw [List.length_take]; omega)]
          rw [List.length_take, Nat.min_eq_left (by omega), List.getElem?_append_left (by omega)]
          exact hv'
        simpa using this
      · rename_i h
        have hcc := S.ws.agree q o v hv'
        by_cases e : q = g
        · rw [e] at hv' hcc ⊢
          have ho : o < es.length * m := by
            rcases Nat.lt_or_ge o (es.length * m) with h1 | h1
            · exact h1
            · rw [hn o h1] at hv'; cases hv'
          have hb2 : (w.setRow g (putVs cur.toList (es.length * m) news).toArray).heap[g]? = some (.cells ws' et (0, 0)) := hblk
          unfold World.cell? at hcc ⊢
          rw [hg] at hcc
          rw [hb2]
          have : ws'[o]? = cur[o]? := by
            show (putVs cur.toList (es.length * m) news).toArray[o]? = _
            rw [putVs_eq _ _ _ hfit, List.getElem?_toArray, List.append_assoc, List.getElem?_append_left (by rw [List.length_take]; omega), List.getElem?_take_of_lt ho, Array.getElem?_toList]
          simp only at hcc ⊢
          rw [this]; exact hcc
        · rw [cell_of_block (w := w) (hoth q e)]; exact hcc
    · refine ⟨by simp, hoth _ (hbx i c0 hc0), fun o => ?_⟩
      show (if x.ρ i = g ∧ es.length * m ≤ o ∧ o < es.length * m + news.length then news[o - es.length * m]? else x.h (x.ρ i) o) = none
      rw [if_neg (fun h => hbx i c0 hc0 h.1)]
      exact (S.ws.box i c0 hc0).2.1 o
    · obtain ⟨c1, h4⟩ := hsome i hi
      obtain ⟨c2, h5⟩ := hsome j hj
      exact S.ws.inj i j c1 c2 h4 h5 hij
    · rcases hzz _ _ _ _ hq with ⟨_, e2, e3, e4⟩ | ⟨g1, g2⟩
      · rw [e2, e3, e4]
        refine ⟨hm, Nat.mul_le_mul_right _ hroom, fun o ho => ?_, ws', et, hblk, by rw [hws, hcur]⟩
        show (if g = g ∧ es.length * m ≤ o ∧ o < es.length * m + news.length then _ else x.h g o) = none
        rw [Nat.add_mul] at ho
        rw [if_neg (by omega)]
        exact hn o (by omega)
      · obtain ⟨q1, q2, q3, wz, tz, q4, q5⟩ := S.ws.zone _ q s e g2
        have hqg := hne _ _ _ _ g1 g2
        refine ⟨q1, q2, fun o ho => ?_, wz, tz, by rw [hoth q hqg]; exact q4, q5⟩
        show (if q = g ∧ es.length * m ≤ o ∧ o < es.length * m + news.length then news[o - es.length * m]? else x.h q o) = none
        rw [if_neg (fun h => hqg h.1)]; exact q3 o ho
    · rcases hzz _ _ _ _ g1 with ⟨e1, e2, _⟩ | ⟨e1, e2⟩ <;> rcases hzz _ _ _ _ g2 with ⟨e3, e4, _⟩ | ⟨e3, e4⟩
      · rw [e1, e3]
      · exact absurd e2 (hne _ _ _ _ e3 e4)
      · exact absurd e4 (hne _ _ _ _ e1 e2)
      · exact S.ws.zinj _ _ q s e s' e' e2 e4
    · obtain ⟨c1, h4⟩ := hsome i hi
      rcases hzz _ _ _ _ hq with ⟨_, e2, _⟩ | ⟨_, g2⟩
      · rw [e2]; exact hbx i c1 h4
      · exact S.ws.zbox _ q s e i c1 g2 h4
  · refine ⟨rfl, rfl, rfl, by rw [hsize]; exact Nat.le_refl _, fun q hq => hoth q (fun e => hq (e ▸ hm)), hsub, fun q hq => ?_, fun _ _ => rfl, fun _ h => h⟩
    funext o
    show (if q = g ∧ es.length * m ≤ o ∧ o < es.length * m + news.length then news[o - es.length * m]? else x.h q o) = x.h q o
    rw [if_neg (fun h : q = g ∧ es.length * m ≤ o ∧ o < es.length * m + news.length => hq (by rw [h.1]; exact hm))]
  · refine .inr ⟨g, cap, by simp, ?_, by simpa using hrep, fun h8 => ?_, fun he => hc0 (List.append_eq_nil_iff.1 he).1⟩
    rotate_left
    · cases es with
      | nil =>
        have h0 := hc0 rfl
        have : ys = [] := List.eq_nil_of_length_eq_zero (by simp at hroom; omega)
        subst this
        exact absurd h8 hd8_nil
      | cons q es =>
        obtain ⟨c, r, hc⟩ := h8
        rw [List.cons_append] at hc
        injection hc with e1 e2
        exact hg8 ⟨c, es, by rw [e1]⟩
    show (if k = k then some (g, (es.length + ys.length) * m, cap * m) else x.z k) = _
    rw [if_pos rfl]; simp
theorem at_list {h : H} {bk : Nat} : ∀ {e : List D} {o : Nat}, RepAt h bk o e → ∃ vs : List Value, RepDs h e vs ∧ ∀ (j : Nat) v, vs[j]? = some v → h bk (o + j) = some v
  | [], o, _ => ⟨[], rfl, fun j v hv => by cases hv⟩
  | y :: e, o, ⟨⟨v, hv, hr⟩, r⟩ => by
    obtain ⟨vs, g1, g2⟩ := at_list r
    refine ⟨v :: vs, ⟨v, vs, rfl, hr, g1⟩, fun j u hu => ?_⟩
    cases j with
    | zero => simp at hu; subst hu; exact hv
    | succ j => rw [show o + (j + 1) = o + 1 + j by omega]; exact g2 j u (by simpa using hu)
theorem rows_list {h : H} {bk m : Nat} : ∀ (es : List (List D)) (off : Nat) (vs : Nat → Nat → Value), (∀ e ∈ es, e.length = m) → (∀ (j : Nat) e (i : Nat) y, es[j]? = some e → e[i]? = some y → h bk (off + (j * m + i)) = some (vs j i) ∧ RepD h (vs j i) y) →
    ∃ news : List Value, RepDs h es.flatten news ∧ ∀ (j : Nat) v, news[j]? = some v → h bk (off + j) = some v
  | [], off, vs, _, _ => ⟨[], rfl, fun j v hv => by cases hv⟩
  | e :: es, off, vs, hl, hh => by
    obtain ⟨r1, q1, q2⟩ := at_list (RepAt.of e off (vs 0) (fun i y hy => by
      have := hh 0 e i y rfl hy
      rw [Nat.zero_mul, Nat.zero_add] at this
      exact this))
    obtain ⟨r2, q3, q4⟩ := rows_list es (off + m) (fun j => vs (j + 1)) (fun e he => hl e (by simp [he])) (fun j e' i y he hy => by
      have := hh (j + 1) e' i y (by simpa using he) hy
      rw [show off + m + (j * m + i) = off + ((j + 1) * m + i) by rw [Nat.add_mul]; omega]
      exact this)
    have hr1 : r1.length = m := by rw [q1.length]; exact hl e (by simp)
    refine ⟨r1 ++ r2, q1.take_append q3, fun j v hv => ?_⟩
    rcases Nat.lt_or_ge j m with hj | hj
    · rw [List.getElem?_append_left (by omega)] at hv; exact q2 j v hv
    · rw [List.getElem?_append_right (by omega), hr1] at hv
      have := q4 _ v hv
      rw [show off + m + (j - m) = off + j by omega] at this
      exact this
theorem len_of {h : H} {v : Value} {m : Nat} {es : List (List D)} (r : RepD h v (.sl m es)) : ∀ e ∈ es, e.length = m := by
  rcases r.slice with ⟨_, rfl⟩ | ⟨_, _, _, _, _, _, hn, _⟩
  · simp
  · intro e he
    obtain ⟨j, hj, rfl⟩ := List.mem_iff_getElem.1 he
    exact hn j _ (List.getElem?_eq_getElem hj)
/-- what is to be appended, as the model reads it -/
theorem firstCells_rep (S : WSim I B0 M x b w) {v : Value} {m : Nat} {es : List (List D)} (r : RepD x.h v (.sl m es)) : ∃ news : List Value, RepDs x.h es.flatten news ∧ (Builtin.lenOf v).run P w = .ok es.length w ∧
    ∀ w' : World, w'.heap = w.heap → (Builtin.firstCells m es.length v).run P w' = .ok news.toArray w' := by
  rcases r.slice with ⟨rfl, rfl⟩ | ⟨ad, cap, vs, rfl, ha, _, hn, hh, hr⟩
  · exact ⟨[], rfl, rfl, fun w' _ => by simp [Builtin.firstCells]⟩
  · obtain ⟨news, g1, g2⟩ := rows_list es ad.off vs (len_of r) (fun j e i y he hy => ⟨hh j e i y he hy, hr j e i y he hy⟩)
    refine ⟨news, g1, rfl, fun w' hw => ?_⟩
    have hl : news.length = es.length * m := by rw [g1.length, flat_len (len_of r)]
    refine run_firstCells_some (P := P) w' m es.length ad es.length cap news hl (fun j v hv => ?_)
    have hne : es ≠ [] := by intro e0; subst e0; simp at hl; subst hl; cases hv
    have hsp := ha hne
    obtain ⟨bk, off, sp⟩ := ad
    simp only at hsp
    subst hsp
    rw [add_plain, cell_of_block (w := w) (by rw [hw])]
    exact S.agree _ _ _ (g2 j v hv)
theorem RepDs.one {h : H} : ∀ {ds : List D} {l : List Value}, RepDs h ds l → ∀ c ∈ l, c.oneCell' = true
  | [], l, r => by have : l = [] := r; subst this; intro c hc; cases hc
  | y :: ds, l, r => by
    obtain ⟨v, l0, rfl, h1, h2⟩ := r
    intro c hc
    cases hc with
    | head => exact h1.one
    | tail _ hc => exact h2.one c hc
theorem EffOK.scr (S : Sim I B0 M nt x t b a w) (hI : Stable I B0) {u : V} {v : Value} (scr : List Tok) (hv : RepV x u v) : EffOK I B0 M x b { v := u, scr := scr } w v x w := by
  refine ⟨fun _ _ _ h => h, fun _ _ => rfl, fun _ _ => rfl, fun b1 hb => ?_, Ext.refl _ _, hv, fun _ h => h⟩
  have hsome : ∀ i, (getB ([] : Boxes) i ≠ none ∨ getB b i ≠ none) → ∃ c, getB b i = some c := fun i hi => by
    cases h4 : getB b i with
    | some c => exact ⟨c, rfl⟩
    | none => exact absurd h4 (hi.resolve_left (by simp [getB]))
  refine S.ws.step (wr := []) hI hb (fun _ _ _ h => h) (fun _ _ => rfl) (fun _ _ => rfl) (Nat.le_refl _) (fun _ _ => rfl) S.ws.agree (fun i c0 _ hc => ⟨by simp, rfl, (S.ws.box i c0 hc).2.1⟩) (fun i c0 hn => by cases hn) (fun i j hi hj hij => ?_) S.ws.zone S.ws.zinj (fun t' k s e i hz hi => ?_) S.ws.uu (fun _ h => h) (fun i c0 hn => by cases hn)
  · obtain ⟨c1, h1⟩ := hsome i hi
    obtain ⟨c2, h2⟩ := hsome j hj
    exact S.ws.inj i j c1 c2 h1 h2 hij
  · obtain ⟨c1, h1⟩ := hsome i hi
    exact S.ws.zbox t' k s e i c1 hz h1
theorem append_ok (hI : Stable I B0) (S : Sim I B0 M nt x t b a w) {tq u tr e m by0 : Nat} {i : TypeInfo} {z : Value} (ht : P.underlying tq = some (.slice e)) (hu : plainTy P u) (hi : P.info? e = some i) (hsz : i.size = m) (hby : i.bytes = by0) (hz : i.zero = some z) (hzs : z.cells.size = m) (hb0 : 0 < by0)
    {k : Tok} {es ys : List (List D)} {vs vy : Value} (hs : (∃ k0, vs = .slice none 0 0 ∧ es = [] ∧ k0 = k) ∨ RepOwn x k m es vs) {news : List Value} (hyl : ∀ e ∈ ys, e.length = m) (hny : RepDs x.h ys.flatten news) (hlen : (Builtin.lenOf vy).run P w = .ok ys.length w)
    (hfc : ∀ w' : World, w'.heap = w.heap → (Builtin.firstCells m ys.length vy).run P w' = .ok news.toArray w') (hfit : (es.length + ys.length) * by0 ≤ 140737488355328) (hok : okHd e m es ys = true) :
    ∃ v x' w', (Builtin.append_ #[tq, u] tr #[vs, vy]).run P w = .ok v w' ∧ EffOK I B0 M x b { v := .own k m (es ++ ys), scr := [k] } w v x' w' := by
  have hsm : es.length + ys.length ≤ 140737488355328 := Nat.le_trans (Nat.le_mul_of_pos_right _ hb0) hfit
  have hnl : news.length = ys.length * m := by rw [hny.length, flat_len hyl]
  have grow : ∀ (ad : Option Addr) (cap : Nat) (olds : List Value), vs = .slice ad es.length cap → cap < es.length + ys.length → (∀ e ∈ es, e.length = m) → RepDs x.h es.flatten olds → (Builtin.firstCells m es.length vs).run P w.drew = .ok olds.toArray w.drew →
      ∃ v x' w', (Builtin.append_ #[tq, u] tr #[vs, vy]).run P w = .ok v w' ∧ EffOK I B0 M x b { v := .own k m (es ++ ys), scr := [k] } w v x' w' := by
    intro ad cap olds hvs hcap hel ho hfo
    have hol : olds.length = es.length * m := by rw [ho.length, flat_len hel]
    have hge := grownCap_ge w (es.length + ys.length) cap e
    let G := grownCap w (es.length + ys.length) cap e
    let cells : Array Value := olds.toArray ++ news.toArray ++ Builtin.zeroCells z.cells (G - (es.length + ys.length))
    have hrun := run_append_new (P := P) (w := w) tq u tr e i z ht hu hi hz vs ad es.length cap ys.length hvs vy olds news hlen (by rw [hsz]; exact hfc w.drew rfl) (by rw [hsz]; exact hfo) hcap (by omega) (by rw [hby]; exact growslice_fits hcap hfit)
    have hcs : cells.size = G * m := by
      show (olds.toArray ++ news.toArray ++ Builtin.zeroCells z.cells (G - (es.length + ys.length))).size = G * m
      simp only [Array.size_append, List.size_toArray, size_zeroCells, hzs, hol, hnl, ← Nat.add_mul]
      congr 1
      omega
    have hh : (w.drew.alloc (.cells cells e)).heap[w.heap.size]? = some (.cells cells e (0, 0)) := push_eq
    obtain ⟨x', hx⟩ := EffOK.newRow S hI (w' := w.drew.alloc (.cells cells e)) (o := .cells cells e) (fun q hq => push_lt hq) push_eq (by show w.heap.size < (w.heap.push _).size; simp) rfl rfl rfl m (es ++ ys) (olds ++ news) (fun q hq => by
        rcases List.mem_append.1 hq with h | h
        · exact hel q h
        · exact hyl q h) (by rw [List.flatten_append]; exact ho.take_append hny) (fun j v hv => by
        unfold World.cell?
        rw [hh]
        have : cells[j]? = some v := by
          have hlt : j < (olds ++ news).length := (List.getElem?_eq_some_iff.1 hv).1
          rw [← Array.getElem?_toList]
          show (olds.toArray ++ news.toArray ++ Builtin.zeroCells z.cells (G - (es.length + ys.length))).toList[j]? = some v
          rw [Array.toList_append, Array.toList_append, List.getElem?_append_left (by simpa using hlt)]
          simpa using hv
        simpa using this) G (by simp; omega) (some k) (fun _ => ⟨cells, e, rfl, hcs⟩) [k] (fun k' hk' => by cases hk'; simp) (.own k m (es ++ ys)) (.inr ⟨k, rfl, rfl⟩) (fun _ h8 => ⟨cells, (0, 0), by rw [okHd_spec hok (fun q hq => (List.mem_append.1 hq).elim (hel q) (hyl q)) h8]⟩) (fun _ he => by have h0 := congrArg List.length he; rw [List.length_append, List.length_nil] at h0; omega)
    rw [List.length_append] at hx
    exact ⟨_, x', _, hrun, hx⟩
  have nilcase : vs = .slice none 0 0 → es = [] → (x.z k = none ∨ ys ≠ []) → ∃ v x' w', (Builtin.append_ #[tq, u] tr #[vs, vy]).run P w = .ok v w' ∧ EffOK I B0 M x b { v := .own k m (es ++ ys), scr := [k] } w v x' w' := by
    intro hvs hes hor
    subst hes
    by_cases hys : ys = []
    · subst hys
      have hn0 : news = [] := List.eq_nil_of_length_eq_zero (by simpa using hnl)
      subst hn0
      have hzk : x.z k = none := hor.resolve_right (by simp)
      subst hvs
      exact ⟨_, x, w, run_append_none tq u tr e i ht hu hi vy hlen (by rw [hsz]; exact hfc w rfl), EffOK.scr S hI [k] (.inl ⟨rfl, rfl, hzk⟩)⟩
    · have hpos : 0 < ys.length := List.length_pos_iff.2 hys
      exact grow none 0 [] hvs (by simpa using hpos) (by simp) rfl (by subst hvs; simp [Builtin.firstCells])
  rcases hs with ⟨k0, h1, h2, rfl⟩ | h
  · by_cases hys : ys = []
    · subst hys
      subst h2
      have hn0 : news = [] := List.eq_nil_of_length_eq_zero (by simpa using hnl)
      subst hn0
      subst h1
      have hstep : EffOK I B0 M x b { v := .own k0 m ([] ++ []), scr := [k0] } w (.slice none 0 0) { x with z := fun t' => if t' = k0 then none else x.z t' } w := by
        have hsc := EffOK.scr S hI (u := .undef) (v := .slice none 0 0) [k0] trivial
        refine ⟨fun _ _ _ h => h, fun _ _ => rfl, fun t' ht' => ?_, fun b1 hb => ?_, Ext.refl _ _ |>.trans ⟨rfl, rfl, rfl, Nat.le_refl _, fun _ _ => rfl, fun _ _ _ h => h, fun _ _ => rfl, fun _ _ => rfl, fun _ h => h⟩, .inl ⟨rfl, rfl, by simp⟩, fun _ h => h⟩
        · show (if t' = k0 then none else x.z t') = x.z t'
          rw [if_neg (by simpa using ht')]
        · have hsome : ∀ i, (getB ([] : Boxes) i ≠ none ∨ getB b i ≠ none) → ∃ c, getB b i = some c := fun i hi => by
            cases h4 : getB b i with
            | some c => exact ⟨c, rfl⟩
            | none => exact absurd h4 (hi.resolve_left (by simp [getB]))
          have hzz : ∀ t' p, (if t' = k0 then none else x.z t') = some p → x.z t' = some p := fun t' p h => by
            split at h
            · cases h
            · exact h
          refine S.ws.step (wr := []) (x' := { x with z := fun t' => if t' = k0 then none else x.z t' }) hI hb (fun _ _ _ h => h) (fun _ _ => rfl) (fun t' ht' => by
            show (if t' = k0 then none else x.z t') = x.z t'
            rw [if_neg (by simpa using ht')]) (Nat.le_refl _) (fun _ _ => rfl) S.ws.agree (fun i c0 _ hc => ⟨by simp, rfl, (S.ws.box i c0 hc).2.1⟩) (fun i c0 hn => by cases hn) (fun i j hi hj hij => ?_) (fun t' q s e' hq => S.ws.zone t' q s e' (hzz _ _ hq)) (fun t' t'' q s e1 s' e2 h1 h2 => S.ws.zinj _ _ _ _ _ _ _ (hzz _ _ h1) (hzz _ _ h2)) (fun t' q s e' i hz hi => ?_) S.ws.uu (fun _ h => h) (fun i c0 hn => by cases hn)
          · obtain ⟨c1, h1⟩ := hsome i hi
            obtain ⟨c2, h2⟩ := hsome j hj
            exact S.ws.inj i j c1 c2 h1 h2 hij
          · obtain ⟨c1, h1⟩ := hsome i hi
            exact S.ws.zbox t' q s e' i c1 (hzz _ _ hz) h1
      exact ⟨_, _, w, run_append_none tq u tr e i ht hu hi vy hlen (by rw [hsz]; exact hfc w rfl), hstep⟩
    · exact nilcase h1 h2 (.inr hys)
  · rcases h with ⟨h1, h2, h3⟩ | ⟨g, cap, h1, h2, h3, h8, h9⟩
    · exact nilcase h1 h2 (.inl h3)
    · have hel := len_of h3
      obtain ⟨_, hse, _, cur, et, hg, hcur⟩ := S.ws.zone k g _ _ h2
      subst h1
      by_cases hroom : es.length + ys.length ≤ cap
      · obtain ⟨x', hx⟩ := EffOK.stay S hI h2 hg hcur h3 hyl hny hroom h8 h9
        have hfitc : es.length * i.size + news.length ≤ cur.size := by
          rw [hsz, hnl, hcur, ← Nat.add_mul]; exact Nat.mul_le_mul_right _ hroom
        refine ⟨_, x', _, run_append_stay tq u tr e i ht hu hi g es.length cap ys.length cur et hg vy news hlen (by rw [hsz]; exact hfc w rfl) hny.one hroom hfitc, ?_⟩
        rw [hsz]; exact hx
      · obtain ⟨olds, o1, _, o3⟩ := firstCells_rep (P := P) S.ws h3
        exact grow (some ⟨g, 0, none⟩) cap olds rfl (by omega) hel o1 (o3 w.drew rfl)
end
end Go.Proofs.YtaddhpeainliiaaGreatDoor.Id
/-! ## IdealL -/
namespace Go.Proofs.YtaddhpeainliiaaGreatDoor.Id
open Go
set_option linter.unusedSectionVars false
set_option linter.unusedVariables false
set_option linter.unusedSimpArgs false
section
variable {I : World → Prop} {B0 : Nat} {M : Nat → Prop} {P : Program} {tt : TT} {X : Given} {n nt : Nat} {x : Aux} {t : Tmps} {b : Boxes} {a : Act} {w : World}
variable [Ds]
variable {dst : Option Tmp} {ty : TypeId} {pos : String} {after : Array Edge} {guard : Option (Nat × Bool)} {r : Res}
theorem arr1 {α : Type} {a : Array α} {x : α} (h : a.toList = [x]) : a = #[x] := by cases a; simp at h; subst h; rfl
theorem arr2 {α : Type} {a : Array α} {x y : α} (h : a.toList = [x, y]) : a = #[x, y] := by cases a; simp at h; subst h; rfl
theorem map1 {α β : Type} {f : α → β} : ∀ {l : List α} {y : β}, l.map f = [y] → ∃ z, l = [z] ∧ f z = y
  | [z], y, h => ⟨z, rfl, by simpa using h⟩
  | [], _, h => by cases h
  | _ :: _ :: _, _, h => by simp at h
theorem map2 {α β : Type} {f : α → β} : ∀ {l : List α} {y y' : β}, l.map f = [y, y'] → ∃ z z', l = [z, z'] ∧ f z = y ∧ f z' = y'
  | [z, z'], y, y', h => ⟨z, z', rfl, by simpa using h⟩
  | [], _, _, h => by cases h
  | [_], _, _, h => by simp at h
  | _ :: _ :: _ :: _, _, _, h => by simp at h
theorem run_builtin (bi : Builtin) (args : Array Operand) (ts : Array TypeId) (v : Value) (w' : World) (h : (builtin bi ts ty (args.map fun | .const _ => true | _ => false) (args.map a.eval)).run P w = .ok (.value v) w') :
    (execOp a.eval ⟨dst, .call ⟨.builtin bi, args, ts⟩, ty, pos, after, guard⟩).run P w = .ok (.value v) w' := by
  simp only [execOp, resolve]
  rw [Sem.run_bind]
  show Result.andThen (.ok _ w) _ = _
  rw [Result.andThen_ok]
  exact h
theorem byteEs_len (s : ByteArray) : (byteEs s).length = s.size := by
  unfold byteEs; rw [List.length_map, Array.length_toList]; rfl
theorem byteEs_one (s : ByteArray) : ∀ e ∈ byteEs s, e.length = 1 := by
  intro e he
  obtain ⟨c, _, rfl⟩ := List.mem_map.1 he
  rfl
theorem byteEs_rep {h : H} (l : List UInt8) : RepDs h (l.map byteD).flatten (l.map fun b => Value.int .u8 b.toNat) := by
  induction l with
  | nil => exact rfl
  | cons c l ih => exact ⟨_, _, rfl, RepD.int _ _, ih⟩
theorem sc_string (htt : TTok P tt) {tq n1 : Nat} {s : ByteArray} {cmp : Bool} (h : TT.get tt tq = some ⟨.sc, n1, [.d (.str s)], cmp⟩) : P.underlying tq = some .string := by
  obtain ⟨d, hu, _, _, _, hs, _⟩ := (htt _ _ h).kind
  rw [hu, hs _ rfl]
theorem sc_int (htt : TTok P tt) {tq n1 : Nat} {k : IntKind} {z : Int} {cmp : Bool} (h : TT.get tt tq = some ⟨.sc, n1, [.d (.int k z)], cmp⟩) : P.underlying tq = some (.int k) := by
  obtain ⟨d, hu, _, _, hs, _⟩ := (htt _ _ h).kind
  rw [hu, hs _ _ rfl]
theorem op_builtin (htt : TTok P tt) (hI : Stable I B0) (S : Sim I B0 M nt x t b a w) (bi : Builtin) (args : Array Operand) (ts : Array TypeId) (h : DenN P tt X n Res (opEff tt ⟨dst, .call ⟨.builtin bi, args, ts⟩, ty, pos, after, guard⟩ (St.ev ⟨t, b⟩) (getB b)) r) : OpOK I B0 M P ⟨dst, .call ⟨.builtin bi, args, ts⟩, ty, pos, after, guard⟩ a x b w r := by
  simp only [opEff] at h
  unfold evBuiltin at h
  split at h
  · rename_i tq u hts hxs
    obtain ⟨z, hz, rfl⟩ := map1 hxs
    obtain rfl := arr1 hz
    obtain rfl := arr1 hts
    have hv := S.ev z
    split at h
    · rename_i s e1 e2
      rw [e2] at hv
      refine OpOK.pure S (v := .int .i64 s.size) (den_val h) (run_builtin _ _ _ _ _ ?_) (RepD.int _ _)
      simp [builtin, Builtin.len_, hv.str, run_underlying (sc_string htt e1)]; rfl
    · rename_i e1
      obtain ⟨hu, _⟩ := (htt _ _ e1).kind
      split at h
      · rename_i m es e3
        refine OpOK.pure S (v := .int .i64 es.length) (den_val h) (run_builtin _ _ _ _ _ ?_) (RepD.int _ _)
        rcases (slOf_rep e3 hv).slice with ⟨h1, rfl⟩ | ⟨ad, cap, vs, h1, _⟩
        · simp [builtin, Builtin.len_, h1, run_underlying hu]; rfl
        · simp [builtin, Builtin.len_, h1, run_underlying hu]; rfl
      · exact (den_fail h).elim
    · exact (den_fail h).elim
  · rename_i tq u y0 y1 hts hxs
    obtain ⟨z, z', hz, rfl, rfl⟩ := map2 hxs
    obtain rfl := arr2 hz
    obtain rfl := arr2 hts
    have hu : DenN P tt X n Res (evAppend tt ⟨dst, .call ⟨.builtin .append, #[z, z'], #[tq, u]⟩, ty, pos, after, guard⟩ tq (St.ev ⟨t, b⟩ z) (St.ev ⟨t, b⟩ z')) r ∧ plainTy P u := by
      split at h
      · rename_i e1
        obtain ⟨hu, _⟩ := (htt _ _ e1).kind
        exact ⟨h, .inr ⟨_, hu⟩⟩
      · rename_i e1
        exact ⟨h, .inl (sc_string htt e1)⟩
      · exact (den_fail h).elim
    obtain ⟨h, hpl⟩ := hu
    have hv := S.ev z
    have hv' := S.ev z'
    unfold evAppend at h
    split at h
    · rename_i e m by0 n1 zero cmp d e1 e2
      obtain ⟨hut, _, ⟨i, zz, hi, hsz, hby, hzz, hzs, hm0, hb0⟩, _⟩ := (htt _ _ e1).kind
      have hys : ∀ ys, (match St.ev ⟨t, b⟩ z' with
          | .d (.str s) => match m with | 1 => some (byteEs s) | _ => none
          | v => match slOf v with
            | some (m', es) => match es with | [] => some [] | es => match Nat.beq m' m with | true => some es | false => none
            | none => none) = some ys → (∀ e ∈ ys, e.length = m) ∧ ∃ news : List Value, RepDs x.h ys.flatten news ∧ (Builtin.lenOf (a.eval z')).run P w = .ok ys.length w ∧ ∀ w' : World, w'.heap = w.heap → (Builtin.firstCells m ys.length (a.eval z')).run P w' = .ok news.toArray w' := by
        intro ys hq
        split at hq
        · rename_i s es0
          rw [es0] at hv'
          split at hq
          · cases hq
            refine ⟨byteEs_one s, Lib.strCells s, byteEs_rep _, ?_, fun w' _ => ?_⟩
            · rw [hv'.str, byteEs_len]; rfl
            · rw [hv'.str, byteEs_len]; exact Lib.run_firstCells_string w' 1 s
          · cases hq
        · split at hq
          · rename_i m' es hsl
            have hr := slOf_rep hsl hv'
            split at hq
            · cases hq
              refine ⟨by simp, ?_⟩
              rcases hr.slice with ⟨h1, _⟩ | ⟨ad, cap, vs, h1, _⟩
              · rw [h1]; exact ⟨[], rfl, rfl, fun w' _ => by simp [Builtin.firstCells]⟩
              · rw [h1]; exact ⟨[], rfl, rfl, fun w' _ => by simp [Builtin.firstCells, loadCells, loadCellsFrom]⟩
            · split at hq
              · rename_i hmm
                have hmm := Nat.eq_of_beq_eq_true hmm
                subst hmm
                cases hq
                exact ⟨len_of hr, firstCells_rep S.ws hr⟩
              · cases hq
          · cases hq
      simp only at h
      split at h
      · rename_i k m' es ys hx hy
        rw [hx] at hv
        split at h
        · rename_i hmm hok
          have hmm := Nat.eq_of_beq_eq_true hmm
          subst hmm
          obtain ⟨hfit, h⟩ := den_asrt h
          obtain rfl := den_leaf h
          obtain ⟨g1, news, g2, g3, g4⟩ := hys ys hy
          refine ⟨fun _ => ?_, fun u hu => by cases hu⟩
          obtain ⟨v, x', w', q1, q2⟩ := append_ok hI S (tr := ty) hut hpl hi hsz hby hzz hzs hb0 (.inr hv) g1 g2 g3 g4 hfit hok
          exact ⟨v, x', w', .inl (run_builtin _ _ _ _ _ (by simp [builtin, q1])), q2⟩
        · exact (den_fail h).elim
      · rename_i q ys hx hy
        rw [hx] at hv
        split at h
        rotate_left
        · exact (den_fail h).elim
        rename_i hok
        obtain ⟨hfit, h⟩ := den_asrt h
        obtain rfl := den_leaf h
        obtain ⟨g1, news, g2, g3, g4⟩ := hys ys hy
        refine ⟨fun _ => ?_, fun u hu => by cases hu⟩
        have hnil : a.eval z = .slice none 0 0 := by
          generalize a.eval z = vz at hv
          cases (RepV.d hv); rfl
        obtain ⟨v, x', w', q1, q2⟩ := append_ok hI S (tr := ty) hut hpl hi hsz hby hzz hzs hb0 (k := (d, here)) (es := []) (vs := a.eval z) (.inl ⟨_, hnil, rfl, rfl⟩) g1 g2 g3 g4 (by simpa using hfit) hok
        exact ⟨v, x', w', .inl (run_builtin _ _ _ _ _ (by simp [builtin, q1])), by simpa using q2⟩
      · exact (den_fail h).elim
    · exact (den_fail h).elim
  · rename_i k p k' q hxs
    obtain ⟨z, z', hz, h1, h2⟩ := map2 hxs
    obtain rfl := arr2 hz
    have hv := S.ev z
    have hv' := S.ev z'
    rw [h1] at hv
    rw [h2] at hv'
    refine OpOK.pure S (v := .int k (if q < p then q else p)) (den_val h) (run_builtin _ _ _ _ _ ?_) (RepD.int _ _)
    simp [builtin, Builtin.min_, Builtin.min2, hv.int, hv'.int]
  · rename_i k p k' q hxs
    obtain ⟨z, z', hz, h1, h2⟩ := map2 hxs
    obtain rfl := arr2 hz
    have hv := S.ev z
    have hv' := S.ev z'
    rw [h1] at hv
    rw [h2] at hv'
    refine OpOK.pure S (v := .int k (if p < q then q else p)) (den_val h) (run_builtin _ _ _ _ _ ?_) (RepD.int _ _)
    simp [builtin, Builtin.max_, Builtin.max2, hv.int, hv'.int]
  · exact (den_fail h).elim
/-! ### conversions -/
theorem op_convert (htt : TTok P tt) (hI : Stable I B0) (S : Sim I B0 M nt x t b a w) (sq tq : TypeId) (y : Operand) (h : DenN P tt X n Res (opEff tt ⟨dst, .convert sq tq y, ty, pos, after, guard⟩ (St.ev ⟨t, b⟩) (getB b)) r) : OpOK I B0 M P ⟨dst, .convert sq tq y, ty, pos, after, guard⟩ a x b w r := by
  obtain ⟨u, h1, h2⟩ := den_bind h
  have hy := S.ev y
  have fin : ∀ v, (convert sq tq (a.eval y)).run P w = .ok v w → RepV x u v → OpOK I B0 M P ⟨dst, .convert sq tq y, ty, pos, after, guard⟩ a x b w r := by
    intro v hr hv
    refine OpOK.pure S (den_val h2) ?_ hv
    simp only [execOp]
    rw [Sem.run_bind, hr]; rfl
  unfold evConv at h1
  split at h1
  · rename_i n1 zero cmp n2 k z cmp2 k0 q e1 e2 e3
    rw [e3] at hy
    obtain ⟨d, hd, _⟩ := (htt _ _ e1).kind
    have hu := sc_int htt e2
    obtain rfl := den_leaf h1
    refine fin (.int k (k.wrap q)) ?_ (RepD.int _ _)
    rw [hy.int]
    simp [convert, run_underlying hd, run_underlying hu, Conv.intToInt]
  · rename_i n1 zero cmp n2 s0 cmp2 s e1 e2 e3
    rw [e3] at hy
    obtain ⟨d, hd, _⟩ := (htt _ _ e1).kind
    have hu := sc_string htt e2
    obtain rfl := den_leaf h1
    refine fin (.string s) ?_ (RepD.str _)
    rw [hy.str]
    simp [convert, run_underlying hd, run_underlying hu]
  · rename_i e by0 n1 zero n2 s0 cmp2 e1 e2
    obtain ⟨hd, _, _, hc⟩ := (htt _ _ e1).kind
    have he := hc rfl
    have hu := sc_string htt e2
    split at h1
    · rename_i es e3
      have hn := hy.norm
      rw [e3] at hn
      obtain ⟨bs, rfl, h3⟩ := den_bytes h1
      obtain rfl := den_leaf h3
      have hrep : RepV x (.d (.str ⟨bs.toArray⟩)) (.string ⟨bs.toArray⟩) := RepD.str _
      refine fin (.string ⟨bs.toArray⟩) ?_ hrep
      have hs : RepD x.h (a.eval y) (.sl 1 (bs.map byteD)) := hn
      generalize a.eval y = v at hs
      rcases hs.slice with ⟨rfl, h0⟩ | ⟨ad, cap, vs, rfl, ha, _, hnn, hh, hr⟩
      · have : bs = [] := by simpa using h0
        subst this
        exact run_convert_bytes_nil w sq e hd he 0 0 tq hu
      · by_cases hb : bs = []
        · subst hb
          rw [run_convert_bytes_string w sq tq e _ _ _ hd he hu]
          simp [Conv.bytesToString, loadCells, loadCellsFrom]
          rfl
        · have hsp := ha (by simpa using hb)
          obtain ⟨bk, off, sp⟩ := ad
          simp only at hsp
          subst hsp
          have := run_convert_bytes_arg (P := P) w sq e hd he bk off (bs.map byteD).length cap (bs.map fun c => (c.toNat : Int)) (by simp) (fun i hi => by
            have hi' : i < bs.length := by simpa using hi
            have g1 : (bs.map byteD)[i]? = some (byteD bs[i]) := by simp [hi']
            have g2 := hh i _ 0 _ g1 rfl
            have g3 := hr i _ 0 _ g1 rfl
            have := S.ws.agree _ _ _ g2
            simp only [Nat.mul_one, Nat.add_zero] at this
            rw [this]
            generalize vs i 0 = vv at g3
            cases g3
            simp [hi']) tq hu
          rw [this]
          congr 2
          unfold strOfNums
          congr 2
          rw [List.map_map]
          conv => rhs; rw [← List.map_id bs]
          apply List.map_congr_left
          intro c _
          simp
    · exact (den_fail h1).elim
  · rename_i n1 s0 cmp e by0 n2 zero s e1 e2 e3
    rw [e3] at hy
    obtain ⟨hd, _, _, hc⟩ := (htt _ _ e2).kind
    have he := hc rfl
    have hu := sc_string htt e1
    obtain rfl := den_leaf h1
    obtain rfl := den_val h2
    refine ⟨fun _ => ?_, fun u hu => by cases hu⟩
    have hfr : ∀ (w1 : World) (ad : Addr) (k : Nat), (w1.freeze ad k).os = w1.os ∧ (w1.freeze ad k).tape = w1.tape ∧ (w1.freeze ad k).output = w1.output := fun w1 ad k => by
      unfold World.freeze; split <;> exact ⟨rfl, rfl, rfl⟩
    have hf := hfr (w.drew.alloc (.cells (Lib.bytesCells w e s) e)) ⟨w.heap.size, (Lib.bytesCells w e s).size, none⟩ 1
    obtain ⟨x', hx⟩ := EffOK.newRow S hI (w' := Lib.bytesWorld w e s) (fun k hk => Lib.bytesWorld_at_old w e s k hk) (Lib.bytesWorld_at_new w e s) (by rw [Lib.bytesWorld_size]; omega) (hf.1.trans rfl) (hf.2.1.trans rfl) (hf.2.2.trans rfl) 1 (s.data.toList.map byteD) (s.data.toList.map fun c => Value.int .u8 c.toNat) (by
        intro q hq; obtain ⟨c, _, rfl⟩ := List.mem_map.1 hq; rfl) (byteEs_rep _) (fun j v hv => by
        have hlt : j < s.data.toList.length := by have := (List.getElem?_eq_some_iff.1 hv).1; simpa using this
        rw [Lib.bytesWorld_cell w e s j (by rw [Array.length_toList] at hlt; exact hlt)]
        rw [List.getElem?_map, List.getElem?_eq_getElem hlt] at hv
        rw [List.getD_eq_getElem?_getD, List.getElem?_eq_getElem hlt]
        exact hv) (grownCap w s.size 0 e) (by rw [List.length_map, Array.length_toList]; exact grownCap_ge w s.size 0 e) none (fun h => absurd rfl h) [] (fun k hk => by cases hk) (.d (.sl 1 (s.data.toList.map byteD))) (.inl rfl) (fun h => absurd rfl h) (fun h => absurd rfl h)
    have hsl : (s.data.toList.map byteD).length = s.size := by rw [List.length_map, Array.length_toList]; rfl
    rw [hsl] at hx
    refine ⟨_, x', _, .inl ?_, hx⟩
    simp only [execOp]
    rw [Sem.run_bind, hy.str, Lib.run_convert_string_bytes w sq tq e s hu hd he]
    rfl
  · exact (den_fail h1).elim
end
end Go.Proofs.YtaddhpeainliiaaGreatDoor.Id
/-! ## IdealM -/
namespace Go.Proofs.YtaddhpeainliiaaGreatDoor.Id
open Go
set_option linter.unusedSectionVars false
set_option linter.unusedVariables false
set_option linter.unusedSimpArgs false
theorem getB_number {b0 : Nat} : ∀ (l : List (List V)) (k q : Nat), getB (number b0 l k) q = if b0 + k ≤ q then l[q - (b0 + k)]? else none
  | [], k, q => by simp [number, getB]
  | cs :: l, k, q => by
    simp only [number, getB]
    by_cases h : b0 + k = q
    · subst h; simp
    · have : Nat.beq (b0 + k) q = false := by rw [← Bool.not_eq_true]; exact fun e => h (Nat.eq_of_beq_eq_true e)
      rw [this, getB_number l (k + 1) q]
      by_cases h2 : b0 + k ≤ q
      · rw [if_pos h2, if_pos (by omega), show q - (b0 + k) = (q - (b0 + (k + 1))) + 1 by omega, List.getElem?_cons_succ]
      · rw [if_neg h2, if_neg (by omega)]
theorem getT_number {b0 : Nat} : ∀ (l : List V) (k q : Nat), getT (number b0 l k) q = if b0 + k ≤ q then (l[q - (b0 + k)]?).getD .undef else .undef
  | [], k, q => by simp [number, getT]
  | v :: l, k, q => by
    simp only [number, getT]
    by_cases h : b0 + k = q
    · subst h; simp
    · have : Nat.beq (b0 + k) q = false := by rw [← Bool.not_eq_true]; exact fun e => h (Nat.eq_of_beq_eq_true e)
      rw [this, getT_number l (k + 1) q]
      by_cases h2 : b0 + k ≤ q
      · rw [if_pos h2, if_pos (by omega), show q - (b0 + k) = (q - (b0 + (k + 1))) + 1 by omega, List.getElem?_cons_succ]
      · rw [if_neg h2, if_neg (by omega)]
theorem memN_iff {i : Nat} : ∀ {l : List Nat}, memN i l = true ↔ i ∈ l
  | [] => by simp [memN]
  | j :: l => by
    simp only [memN, Bool.or_eq_true, List.mem_cons]
    rw [memN_iff (l := l)]
    constructor
    · rintro (h | h)
      · exact .inl (Nat.eq_of_beq_eq_true h)
      · exact .inr h
    · rintro (h | h)
      · subst h; exact .inl (by simp)
      · exact .inr h
theorem addAll_nodup : ∀ {l m : List Nat}, l.Nodup → (addAll l m).Nodup
  | l, [], h => h
  | l, i :: r, h => by
    simp only [addAll]
    cases hm : memN i l with
    | true => exact addAll_nodup h
    | false =>
      refine addAll_nodup ?_
      rw [List.nodup_append]
      refine ⟨h, by simp, fun x hx y hy e => ?_⟩
      simp only [List.mem_singleton] at hy
      subst hy; subst e
      rw [memN_iff.2 hx] at hm; cases hm
theorem posOf_some : ∀ {l : List Nat} {q k p : Nat}, posOf q l k = some p → ∃ j, p = k + j ∧ l[j]? = some q
  | [], q, k, p, h => by cases h
  | j :: l, q, k, p, h => by
    simp only [posOf] at h
    split at h
    · rename_i e; cases h; exact ⟨0, rfl, by rw [Nat.eq_of_beq_eq_true e]; rfl⟩
    · obtain ⟨j', rfl, h2⟩ := posOf_some h
      exact ⟨j' + 1, by omega, by simpa using h2⟩
theorem posOf_get : ∀ {l : List Nat} {q k j : Nat}, l.Nodup → l[j]? = some q → posOf q l k = some (k + j)
  | [], q, k, j, _, h => by cases h
  | i :: l, q, k, 0, _, h => by simp at h; subst h; simp [posOf]
  | i :: l, q, k, j + 1, hn, h => by
    have hne : i ≠ q := by
      intro e; subst e
      have hm := List.mem_of_getElem? (by simpa using h : l[j]? = some i)
      exact (List.nodup_cons.1 hn).1 hm
    have : Nat.beq q i = false := by rw [← Bool.not_eq_true]; exact fun e => hne (Nat.eq_of_beq_eq_true e).symm
    simp only [posOf, this]
    rw [posOf_get (List.nodup_cons.1 hn).2 (by simpa using h : l[j]? = some q)]
    congr 1; omega
theorem boxesIn_spec {β : Nat → Option (List V)} {f : Nat → Option Nat} : ∀ {ids : List Nat} {j0 : Nat} {bx : List (List V)}, boxesIn β f ids j0 = some bx → bx.length = ids.length ∧ ∀ (j : Nat) cs, bx[j]? = some cs → ∃ q c0, ids[j]? = some q ∧ β q = some c0 ∧ cs = cellsRen f q (base + (j0 + j)) c0 0
  | [], j0, bx, h => by cases h; exact ⟨rfl, fun j cs h => by cases h⟩
  | i :: ids, j0, bx, h => by
    simp only [boxesIn] at h
    split at h
    · rename_i cs l e1 e2
      cases h
      obtain ⟨g1, g2⟩ := boxesIn_spec e2
      refine ⟨by simp [g1], fun j c hc => ?_⟩
      cases j with
      | zero => simp at hc; subst hc; exact ⟨i, cs, rfl, e1, rfl⟩
      | succ j =>
        obtain ⟨q, c0, h1, h2, h3⟩ := g2 j c (by simpa using hc)
        exact ⟨q, c0, by simpa using h1, h2, by rw [h3]; congr 1; omega⟩
    · cases h
theorem boxesIn_some {β : Nat → Option (List V)} {f : Nat → Option Nat} : ∀ {ids : List Nat} {j0 : Nat} {bx : List (List V)}, boxesIn β f ids j0 = some bx → ∀ q ∈ ids, ∃ cs, β q = some cs
  | [], _, _, _, q, hq => by cases hq
  | i :: ids, j0, bx, h, q, hq => by
    simp only [boxesIn] at h
    split at h
    · rename_i cs l e1 e2
      cases hq with
      | head => exact ⟨cs, e1⟩
      | tail _ hq => exact boxesIn_some e2 q hq
    · cases h
theorem boxesOut_spec {J : List Nat} : ∀ {ids : List Nat} {j0 : Nat} {l : List (List V)} {wr : Boxes}, boxesOut J ids j0 l = some wr → l.length = ids.length ∧
    (∀ i cs, getB wr i = some cs → (i, cs) ∈ wr ∧ ∃ j c', ids[j]? = some i ∧ l[j]? = some c' ∧ cs = cellsRen (unb J) (base + (j0 + j)) i c' 0) ∧ ∀ i, getB wr i = none → i ∉ ids
  | [], j0, [], wr, h => by cases h; exact ⟨rfl, (fun i cs h => by cases h), (fun i _ => by simp)⟩
  | [], j0, _ :: _, wr, h => by cases h
  | i :: ids, j0, [], wr, h => by cases h
  | i :: ids, j0, cs :: l, wr, h => by
    simp only [boxesOut] at h
    split at h
    · rename_i w0 e1
      cases h
      obtain ⟨g1, g2, g3⟩ := boxesOut_spec e1
      refine ⟨by simp [g1], fun q c hc => ?_, fun q hq => ?_⟩
      · simp only [getB] at hc
        split at hc
        · rename_i e
          obtain rfl := Nat.eq_of_beq_eq_true e
          cases hc
          exact ⟨by simp, 0, cs, rfl, rfl, rfl⟩
        · obtain ⟨h0, j, c', h1, h2, h3⟩ := g2 q c hc
          exact ⟨by simp [h0], j + 1, c', by simpa using h1, by simpa using h2, by rw [h3]; congr 1; omega⟩
      · simp only [getB] at hq
        split at hq
        · cases hq
        · rename_i e
          simp only [List.mem_cons, not_or]
          exact ⟨fun e2 => by subst e2; simp at e, g3 q hq⟩
    · cases h
theorem toksOf_mem {i : Nat} : ∀ {cs : List V} {c0 k : Nat} {t : Tok} {n : Nat} {es : List (List D)}, cs[k]? = some (.own t n es) → (i, c0 + k) ∈ toksOf i cs c0
  | [], c0, k, t, n, es, h => by cases h
  | v :: cs, c0, 0, t, n, es, h => by simp at h; subst h; simp [toksOf]
  | v :: cs, c0, k + 1, t, n, es, h => by
    have := toksOf_mem (i := i) (c0 := c0 + 1) (by simpa using h : cs[k]? = some (.own t n es))
    rw [show c0 + 1 + k = c0 + (k + 1) by omega] at this
    cases v <;> simp only [toksOf] <;> first | exact this | exact List.mem_cons_of_mem _ this
theorem catK_mem {t : Tok} : ∀ {l m : List Tok}, t ∈ catK l m ↔ t ∈ l ∨ t ∈ m
  | [], m => by simp [catK]
  | k :: l, m => by simp [catK, catK_mem (l := l), or_assoc]
theorem allToks_mem {t : Tok} : ∀ {w : Boxes} {i : Nat} {cs : List V}, (i, cs) ∈ w → t ∈ toksOf i cs 0 → t ∈ allToks w
  | [], i, cs, h, _ => by cases h
  | (j, c) :: w, i, cs, h, ht => by
    simp only [allToks, catK_mem]
    rcases List.mem_cons.1 h with e | h
    · cases e; exact .inl ht
    · exact .inr (allToks_mem h ht)
theorem boxesAt_mem {β : Nat → Option (List V)} {q : Nat} {cs : List V} (hβ : β q = some cs) : ∀ {ids : List Nat}, q ∈ ids → (q, cs) ∈ boxesAt β ids
  | [], h => by cases h
  | i :: ids, h => by
    simp only [boxesAt]
    rcases List.mem_cons.1 h with e | h
    · subst e; rw [hβ]; simp
    · split
      · exact List.mem_cons_of_mem _ (boxesAt_mem hβ h)
      · exact boxesAt_mem hβ h
mutual
theorem noBox_of {v : V} : boxIds v = [] → ∀ i, hasBox i v = false := by
  intro h i
  match v, h with
  | .box j o, h => simp [boxIds] at h
  | .fn g xs ys, h =>
    simp only [boxIds, List.append_eq_nil_iff] at h
    simp [hasBox, noBoxs_of h.1 i, noBoxs_of h.2 i]
  | .iface t u, h => simp only [boxIds] at h; simpa [hasBox] using noBox_of h i
  | .tuple vs, h => simp only [boxIds] at h; simpa [hasBox] using noBoxs_of h i
  | .undef, _ | .skip, _ | .nilp, _ | .lit _, _ | .d _, _ | .agg _, _ | .own _ _ _, _ | .ref _, _ => rfl
theorem noBoxs_of {vs : List V} : boxIdss vs = [] → ∀ i, hasBoxes i vs = false := by
  intro h i
  match vs, h with
  | [], _ => rfl
  | v :: r, h =>
    simp only [boxIdss, List.append_eq_nil_iff] at h
    simp [hasBoxes, noBox_of h.1 i, noBoxs_of h.2 i]
end
section
variable {x x' : Aux} {f : Nat → Option Nat}
mutual
theorem ren_rep (hh : ∀ b o v, x.h b o = some v → x'.h b o = some v) (hf : ∀ q p, f q = some p → x'.ρ p = x.ρ q) : ∀ (u : V) (v : Value), RepN x u v → RepN x' (ren f u) v
  | .undef, _, _ => trivial
  | .skip, _, r => r
  | .nilp, _, r => r
  | .lit _, _, r => r
  | .d _, _, r => RepD.mono hh r
  | .agg _, _, ⟨cs, e, r⟩ => ⟨cs, e, r.mono hh⟩
  | .own _ _ _, _, r => RepD.mono hh r
  | .box i off, v, r => by
    simp only [ren]
    cases h : f i with
    | none => trivial
    | some j =>
      simp only [RepN] at r ⊢
      rw [hf i j h]; exact r
  | .ref _, _, ⟨b, o, e, r⟩ => ⟨b, o, e, r.mono hh⟩
  | .fn _ us ws, _, ⟨ags, bs, e, r, q⟩ => ⟨ags, bs, e, rens_rep hh hf us _ r, rens_rep hh hf ws _ q⟩
  | .iface _ u, _, ⟨w, e, r⟩ => ⟨w, e, ren_rep hh hf u w r⟩
  | .tuple us, _, ⟨vs, e, r⟩ => ⟨vs, e, rens_rep hh hf us _ r⟩
theorem rens_rep (hh : ∀ b o v, x.h b o = some v → x'.h b o = some v) (hf : ∀ q p, f q = some p → x'.ρ p = x.ρ q) : ∀ (us : List V) (l : List Value), RepNs x us l → RepNs x' (rens f us) l
  | [], _, r => r
  | u :: r, _, ⟨v, vs, e, p, q⟩ => ⟨v, vs, e, ren_rep hh hf u v p, rens_rep hh hf r vs q⟩
end
theorem ren_ne_own (u : V) (h : ∀ t n es, u ≠ .own t n es) : ∀ t n es, ren f u ≠ .own t n es := by
  intro t n es e
  cases u <;> simp only [ren] at e <;> first | (cases e; done) | exact h _ _ _ rfl | (split at e <;> cases e)
theorem cellsRen_rep (hh : ∀ b o v, x.h b o = some v → x'.h b o = some v) (hf : ∀ q p, f q = some p → x'.ρ p = x.ρ q) (hu : ∀ k, x.u k → x'.u k) {i i' : Nat} : ∀ {us : List V} {l : List Value} {c : Nat}, RepVs x us l →
    (∀ k n es, us[k]? = some (.own (i, c + k) n es) → x'.z (i', c + k) = x.z (i, c + k)) → RepVs x' (cellsRen f i i' us c) l
  | [], l, c, r, _ => r
  | u :: us, l, c, ⟨v, vs, e, p, q⟩, hz => by
    refine ⟨v, vs, e, ?_, cellsRen_rep hh hf hu q (fun k n es hk => by
      have := hz (k + 1) n es (by rw [show c + (k + 1) = c + 1 + k by omega]; simpa using hk)
      rw [show c + (k + 1) = c + 1 + k by omega] at this
      exact this)⟩
    cases u with
    | own t n es =>
      simp only
      cases ht : eqTok t (i, c) with
      | true =>
        obtain rfl := eqTok_iff.1 ht
        have hz0 := hz 0 n es rfl
        rw [Nat.add_zero] at hz0
        show RepOwn x' (i', c) n es v
        rcases (show RepOwn x (i, c) n es v from p) with ⟨h1, h2, h3⟩ | ⟨b, cap, h1, h2, h3⟩
        · exact .inl ⟨h1, h2, by rw [hz0]; exact h3⟩
        · exact .inr ⟨b, cap, h1, by rw [hz0]; exact h2, h3.1.mono hh, fun h8 => hu _ (h3.2.1 h8), h3.2.2⟩
      | false => exact RepD.mono hh (RepOwn.repD p)
    | _ => exact RepN.toV (ren_rep hh hf _ v p.toN) (ren_ne_own _ (by simp))
theorem cellsRen_own {i i' : Nat} : ∀ {us : List V} {c k n : Nat} {t : Tok} {es : List (List D)}, (cellsRen f i i' us c)[k]? = some (.own t n es) → t = (i', c + k) ∧ us[k]? = some (.own (i, c + k) n es)
  | [], c, k, n, t, es, h => by cases h
  | u :: us, c, 0, n, t, es, h => by
    simp only [cellsRen, List.getElem?_cons_zero, Option.some.injEq] at h
    cases u with
    | own t0 n0 es0 =>
      simp only at h
      split at h
      · rename_i e; obtain rfl := eqTok_iff.1 e; cases h; exact ⟨rfl, rfl⟩
      · cases h
    | _ => exact absurd h (ren_ne_own _ (by simp) _ _ _)
  | u :: us, c, k + 1, n, t, es, h => by
    have := cellsRen_own (us := us) (c := c + 1) (k := k) (by simpa [cellsRen] using h)
    rw [show c + (k + 1) = c + 1 + k by omega]
    exact ⟨this.1, by simpa using this.2⟩
end
end Go.Proofs.YtaddhpeainliiaaGreatDoor.Id
/-! ## IdealN -/
namespace Go.Proofs.YtaddhpeainliiaaGreatDoor.Id
open Go
set_option linter.unusedSectionVars false
set_option linter.unusedVariables false
set_option linter.unusedSimpArgs false
section
variable {I : World → Prop} {B0 : Nat} {M : Nat → Prop} {P : Program} {tt : TT} {X : Given} {n nt : Nat} {x : Aux} {t : Tmps} {b : Boxes} {a : Act} {w : World}
variable [Ds]
def calleeMay (x : Aux) (b : Boxes) (ids : List Nat) (w : World) (k : Nat) : Prop :=
  (∃ q ∈ ids, x.ρ q = k ∧ getB b q ≠ none) ∨ (∃ t ∈ allToks (boxesAt (getB b) ids), ∃ s e, x.z t = some (k, s, e)) ∨ w.heap.size ≤ k
open Classical in
noncomputable def calleeAux (x : Aux) (b : Boxes) (ids : List Nat) : Aux where
  u := x.u
  h := x.h
  ρ := fun i => if base ≤ i then (match ids[i - base]? with | some q => x.ρ q | none => 0) else 0
  z := fun t => if base ≤ t.1 then (match ids[t.1 - base]? with | some q => if (q, t.2) ∈ allToks (boxesAt (getB b) ids) then x.z (q, t.2) else none | none => none) else none
theorem calleeMay_sub (S : WSim I B0 M x b w) {ids : List Nat} {k : Nat} (h : calleeMay x b ids w k) : M k := by
  rcases h with ⟨q, _, rfl, hq⟩ | ⟨t, _, s, e, hz⟩ | h
  · cases hc : getB b q with
    | none => exact absurd hc hq
    | some cs => exact (S.box q cs hc).1
  · exact (S.zone t k s e hz).1
  · exact S.top k h
theorem calleeρ (x : Aux) (b : Boxes) {ids : List Nat} {j q : Nat} (h : ids[j]? = some q) : (calleeAux x b ids).ρ (base + j) = x.ρ q := by
  simp only [calleeAux]
  rw [if_pos (by omega), show base + j - base = j by omega, h]
theorem callee_in (S : WSim I B0 M x b w) {ids : List Nat} (hnd : ids.Nodup) {bx : List (List V)} (hin : boxesIn (getB b) (fun i => (posOf i ids 0).map (base + ·)) ids 0 = some bx) :
    WSim I B0 (calleeMay x b ids w) (calleeAux x b ids) (number base bx 0) w ∧ ∀ u v, RepN x u v → RepN (calleeAux x b ids) (ren (fun i => (posOf i ids 0).map (base + ·)) u) v := by
  obtain ⟨hlen, hspec⟩ := boxesIn_spec hin
  have hf : ∀ q p, (posOf q ids 0).map (base + ·) = some p → (calleeAux x b ids).ρ p = x.ρ q := fun q p h => by
    cases hp : posOf q ids 0 with
    | none => rw [hp] at h; cases h
    | some j =>
      rw [hp] at h
      simp only [Option.map_some, Option.some.injEq] at h
      obtain ⟨j', e, hj⟩ := posOf_some hp
      subst h
      rw [show j = j' by omega]
      exact calleeρ x b hj
  have hget : ∀ i cs, getB (number base bx 0) i = some cs → ∃ j q c0, i = base + j ∧ ids[j]? = some q ∧ getB b q = some c0 ∧ cs = cellsRen (fun i => (posOf i ids 0).map (base + ·)) q (base + j) c0 0 := fun i cs h => by
    rw [getB_number] at h
    split at h
    · obtain ⟨q, c0, h1, h2, h3⟩ := hspec _ cs h
      rw [Nat.add_zero] at h1 h3
      rw [Nat.zero_add] at h3
      exact ⟨i - base, q, c0, by omega, h1, h2, h3⟩
    · cases h
  have hz : ∀ t k s e, (calleeAux x b ids).z t = some (k, s, e) → ∃ j q, t.1 = base + j ∧ ids[j]? = some q ∧ (q, t.2) ∈ allToks (boxesAt (getB b) ids) ∧ x.z (q, t.2) = some (k, s, e) := fun t k s e h => by
    simp only [calleeAux] at h
    split at h
    · split at h
      · rename_i q hq
        split at h
        · exact ⟨t.1 - base, q, by omega, hq, by assumption, h⟩
        · cases h
      · cases h
    · cases h
  refine ⟨⟨S.inv, fun k hk => S.big k (calleeMay_sub S hk), fun k hk => .inr (.inr hk), S.agree, fun i cs hc => ?_, fun i j cs ds hc hd he => ?_, fun t k s e h => ?_, fun t t' k s e s' e' h1 h2 => ?_, fun t k s e i cs h1 h2 => ?_, S.uu, fun i cs hc => ?_⟩, fun u v r => ren_rep (x := x) (x' := calleeAux x b ids) (fun _ _ _ h => h) hf u v r⟩
  rotate_left 5
  · obtain ⟨j, q, c0, rfl, h1, h2, rfl⟩ := hget i cs hc
    rw [calleeρ x b h1]
    exact S.kt q c0 h2
  · obtain ⟨j, q, c0, rfl, h1, h2, rfl⟩ := hget i cs hc
    rw [calleeρ x b h1]
    obtain ⟨hm, hn, ws, ty, hw, hr⟩ := S.box q c0 h2
    refine ⟨.inl ⟨q, List.mem_of_getElem? h1, rfl, by rw [h2]; simp⟩, hn, ws, ty, hw, ?_⟩
    refine cellsRen_rep (x := x) (x' := calleeAux x b ids) (fun _ _ _ h => h) hf (fun _ h => h) hr (fun k n es hk => ?_)
    simp only [calleeAux]
    rw [if_pos (by simp), show base + j - base = j by omega, h1]
    simp only
    have hm : (q, 0 + k) ∈ allToks (boxesAt (getB b) ids) := allToks_mem (boxesAt_mem h2 (List.mem_of_getElem? h1)) (toksOf_mem hk)
    rw [if_pos hm]
  · obtain ⟨j1, q1, c1, rfl, h1, h2, _⟩ := hget i cs hc
    obtain ⟨j2, q2, c2, rfl, h3, h4, _⟩ := hget j ds hd
    rw [calleeρ x b h1, calleeρ x b h3] at he
    have := S.inj q1 q2 c1 c2 h2 h4 he
    subst this
    have e1 := posOf_get (k := 0) hnd h1
    have e2 := posOf_get (k := 0) hnd h3
    rw [e1] at e2
    have := Option.some.inj e2
    omega
  · obtain ⟨j, q, h1, h2, h3, h4⟩ := hz t k s e h
    obtain ⟨g1, g2, g3, g4⟩ := S.zone _ k s e h4
    exact ⟨.inr (.inl ⟨_, h3, s, e, h4⟩), g2, g3, g4⟩
  · obtain ⟨j1, q1, a1, a2, a3, a4⟩ := hz t k s e h1
    obtain ⟨j2, q2, b1, b2, b3, b4⟩ := hz t' k s' e' h2
    have hq := S.zinj _ _ k s e s' e' a4 b4
    simp only [Prod.mk.injEq] at hq
    obtain ⟨rfl, hc⟩ := hq
    have e1 := posOf_get (k := 0) hnd a2
    have e2 := posOf_get (k := 0) hnd b2
    rw [e1] at e2
    have := Option.some.inj e2
    exact Prod.ext (by omega) hc
  · obtain ⟨j1, q1, a1, a2, a3, a4⟩ := hz t k s e h1
    obtain ⟨j2, q2, c2, rfl, b1, b2, _⟩ := hget i cs h2
    rw [calleeρ x b b1]
    exact S.zbox _ k s e q2 c2 a4 b2
open Classical in
noncomputable def backAux (x x2 : Aux) (b : Boxes) (ids : List Nat) (wr : Boxes) : Aux where
  u := x2.u
  h := x2.h
  ρ := x.ρ
  z := fun t => if t ∈ allToks wr then (match posOf t.1 ids 0 with | some j => x2.z (base + j, t.2) | none => none) else if t ∈ allToks (boxesAt (getB b) ids) then none else x.z t
theorem callee_out (S : WSim I B0 M x b w) (hI : Stable I B0) {ids : List Nat} (hnd : ids.Nodup) {bx : List (List V)} (hin : boxesIn (getB b) (fun i => (posOf i ids 0).map (base + ·)) ids 0 = some bx) {x2 : Aux} {w2 : World} {bx' : List (List V)} {wr : Boxes}
    (hext : Ext (calleeMay x b ids w) (calleeAux x b ids) w x2 w2) (S2 : WSim I B0 (calleeMay x b ids w) x2 (number base bx' 0) w2) (hout : boxesOut ids ids 0 bx' = some wr) {u : V} {v : Value} (hb : boxIds u = []) (hr : RepN x2 u v) :
    EffOK I B0 M x b { v := u.plain, wr := wr, scr := catK (allToks (boxesAt (getB b) ids)) (allToks wr) } w v (backAux x x2 b ids wr) w2 := by
  obtain ⟨hol, hospec, hocov⟩ := boxesOut_spec hout
  have hdef := boxesIn_some hin
  have hsubM : ∀ k, ¬ M k → ¬ calleeMay x b ids w k := fun k hk h => hk (calleeMay_sub S h)
  have hzs : ∀ t, t ∉ catK (allToks (boxesAt (getB b) ids)) (allToks wr) → (backAux x x2 b ids wr).z t = x.z t := fun t ht => by
    simp only [catK_mem, not_or] at ht
    simp only [backAux]
    rw [if_neg ht.2, if_neg ht.1]
  have hzc : ∀ t k s e, (backAux x x2 b ids wr).z t = some (k, s, e) → (∃ j, ids[j]? = some t.1 ∧ x2.z (base + j, t.2) = some (k, s, e)) ∨ (t ∉ allToks (boxesAt (getB b) ids) ∧ x.z t = some (k, s, e)) := fun t k s e h => by
    simp only [backAux] at h
    split at h
    · split at h
      · rename_i j hj
        obtain ⟨j', e1, e2⟩ := posOf_some hj
        exact .inl ⟨j, by rw [show j = j' by omega]; exact e2, h⟩
      · cases h
    · split at h
      · cases h
      · exact .inr ⟨by assumption, h⟩
  have hρ2 : ∀ j q, ids[j]? = some q → x2.ρ (base + j) = x.ρ q := fun j q h => by rw [hext.rho _ (by omega)]; exact calleeρ x b h
  have hnotM : ∀ t k s e, t ∉ allToks (boxesAt (getB b) ids) → x.z t = some (k, s, e) → ¬ calleeMay x b ids w k := fun t k s e ht hz hm => by
    rcases hm with ⟨q, _, hq, hc⟩ | ⟨t', h1, s', e', h2⟩ | h
    · cases h4 : getB b q with
      | none => exact hc h4
      | some cs => exact S.zbox t k s e q cs hz h4 hq
    · have := S.zinj _ _ k s e s' e' hz h2
      subst this; exact ht h1
    · have := S.zlt hz; omega
  have hboxM : ∀ i cs, getB b i = some cs → i ∉ ids → ¬ calleeMay x b ids w (x.ρ i) := fun i cs hc hi hm => by
    rcases hm with ⟨q, hq, he, hn⟩ | ⟨t', h1, s', e', h2⟩ | h
    · cases h4 : getB b q with
      | none => exact hn h4
      | some ds => have := S.inj q i ds cs h4 hc he; subst this; exact hi hq
    · exact S.zbox t' _ s' e' i cs h2 hc rfl
    · have := S.lt hc; omega
  have hin' : ∀ i, (getB wr i ≠ none ∨ getB b i ≠ none) → ∃ c, getB b i = some c := fun i hi => by
    cases h4 : getB b i with
    | some c => exact ⟨c, rfl⟩
    | none =>
      rcases hi with hi | hi
      · cases h5 : getB wr i with
        | none => exact absurd h5 hi
        | some cs =>
          obtain ⟨_, j, c', h6, _⟩ := hospec i cs h5
          obtain ⟨c, hc⟩ := hdef i (List.mem_of_getElem? h6)
          rw [hc] at h4; cases h4
      · exact absurd h4 hi
  have hnum : ∀ j q, ids[j]? = some q → ∃ c', getB (number base bx' 0) (base + j) = some c' := fun j q h => by
    have hj : j < bx'.length := by rw [hol]; exact (List.getElem?_eq_some_iff.1 h).1
    refine ⟨bx'[j], ?_⟩
    rw [getB_number, if_pos (by omega), show base + j - (base + 0) = j by omega]
    exact List.getElem?_eq_getElem hj
  refine ⟨hext.sub, fun _ _ => rfl, hzs, fun b1 hb1 => ?_, ⟨hext.os, hext.tape, hext.output, hext.size, fun k hk => hext.blk k (hsubM k hk), hext.sub, fun k hk => hext.out k (hsubM k hk), fun _ _ => rfl, hext.u⟩, ?_, hext.u⟩
  · refine S.step (x' := backAux x x2 b ids wr) hI hb1 hext.sub (fun _ _ => rfl) hzs hext.size (fun k hk => hext.blk k (hsubM k hk)) S2.agree (fun i cs hn hc => ?_) (fun i cs hc => ?_) (fun i j hi hj he => ?_) (fun t k s e h => ?_) (fun t t' k s e s' e' h1 h2 => ?_) (fun t k s e i h1 hi => ?_) S2.uu hext.u (fun i cs hc ws2 t2 f2 hh2 => ?_)
    rotate_left 6
    · obtain ⟨hmem, j, c', h1, h2, rfl⟩ := hospec i cs hc
      have hg : getB (number base bx' 0) (base + j) = some c' := by
        rw [getB_number, if_pos (by omega), show base + j - (base + 0) = j by omega]; exact h2
      have hh3 : w2.heap[x.ρ i]? = some (.cells ws2 t2 f2) := hh2
      rw [← hρ2 j i h1] at hh3
      exact S2.kt _ c' hg _ _ _ hh3
    · have hi := hocov i hn
      have hm := hboxM i cs hc hi
      refine ⟨by simp, hext.blk _ hm, fun o => ?_⟩
      have : x2.h (x.ρ i) = x.h (x.ρ i) := hext.out _ hm
      show x2.h (x.ρ i) o = none
      rw [this]; exact (S.box i cs hc).2.1 o
    · obtain ⟨hmem, j, c', h1, h2, rfl⟩ := hospec i cs hc
      have hg : getB (number base bx' 0) (base + j) = some c' := by
        rw [getB_number, if_pos (by omega), show base + j - (base + 0) = j by omega]; exact h2
      obtain ⟨g1, g2, ws, ty, g3, g4⟩ := S2.box _ c' hg
      rw [hρ2 j i h1] at g1 g2 g3
      refine ⟨calleeMay_sub S g1, g2, ws, ty, g3, ?_⟩
      rw [Nat.zero_add]
      refine cellsRen_rep (x := x2) (x' := backAux x x2 b ids wr) (fun _ _ _ h => h) (fun q p hq => ?_) (fun _ h => h) g4 (fun k n es hk => ?_)
      · simp only [unb] at hq
        split at hq
        · rename_i hle
          have hle := Nat.le_of_ble_eq_true hle
          show x.ρ p = x2.ρ q
          have e0 : base + (q - base) = q := Nat.add_sub_cancel' hle
          rw [← hρ2 (q - base) p hq, e0]
        · cases hq
      · have hc' : (cellsRen (unb ids) (base + (0 + j)) i c' 0)[k]? = some (.own (i, 0 + k) n es) := by
          have : ∀ (us : List V) (c : Nat) (k : Nat), us[k]? = some (.own (base + j, c + k) n es) → (cellsRen (unb ids) (base + j) i us c)[k]? = some (.own (i, c + k) n es) := by
            intro us
            induction us with
            | nil => intro c k h; cases h
            | cons u us ih =>
              intro c k h
              cases k with
              | zero =>
                simp at h; subst h
                have : eqTok (base + j, c) (base + j, c) = true := eqTok_iff.2 rfl
                simp [cellsRen, this]
              | succ k =>
                have := ih (c + 1) k (by rw [show c + 1 + k = c + (k + 1) by omega]; simpa using h)
                rw [show c + 1 + k = c + (k + 1) by omega] at this
                simpa [cellsRen] using this
          rw [Nat.zero_add j]
          exact this c' 0 k hk
        have hm : (i, 0 + k) ∈ allToks wr := allToks_mem hmem (toksOf_mem hc')
        simp only [backAux]
        rw [if_pos hm, posOf_get (k := 0) hnd h1]
        simp
    · obtain ⟨c1, h1⟩ := hin' i hi
      obtain ⟨c2, h2⟩ := hin' j hj
      exact S.inj i j c1 c2 h1 h2 he
    · rcases hzc t k s e h with ⟨j, h1, h2⟩ | ⟨h1, h2⟩
      · obtain ⟨g1, g2, g3, g4⟩ := S2.zone _ k s e h2
        exact ⟨calleeMay_sub S g1, g2, g3, g4⟩
      · obtain ⟨g1, g2, g3, ws, ty, g4, g5⟩ := S.zone _ k s e h2
        have hm := hnotM t k s e h1 h2
        refine ⟨g1, g2, fun o ho => ?_, ws, ty, by rw [hext.blk _ hm]; exact g4, g5⟩
        have : x2.h k = x.h k := hext.out _ hm
        show x2.h k o = none
        rw [this]; exact g3 o ho
    · rcases hzc t k s e h1 with ⟨j, a1, a2⟩ | ⟨a1, a2⟩ <;> rcases hzc t' k s' e' h2 with ⟨j', b1, b2⟩ | ⟨b1, b2⟩
      · have := S2.zinj _ _ k s e s' e' a2 b2
        simp only [Prod.mk.injEq] at this
        obtain ⟨h3, h4⟩ := this
        have hj : j = j' := by omega
        subst hj
        rw [a1] at b1
        exact Prod.ext (Option.some.inj b1) h4
      · exact absurd (S2.zone _ k s e a2).1 (hnotM t' k s' e' b1 b2)
      · exact absurd (S2.zone _ k s' e' b2).1 (hnotM t k s e a1 a2)
      · exact S.zinj _ _ k s e s' e' a2 b2
    · obtain ⟨c1, hc1⟩ := hin' i hi
      show x.ρ i ≠ k
      rcases hzc t k s e h1 with ⟨j, a1, a2⟩ | ⟨a1, a2⟩
      · by_cases hi' : i ∈ ids
        · obtain ⟨j2, hj2, hij⟩ := List.mem_iff_getElem.1 hi'
          have hg : ids[j2]? = some i := by rw [← hij]; exact List.getElem?_eq_getElem hj2
          obtain ⟨c', hc'⟩ := hnum j2 i hg
          rw [← hρ2 j2 i hg]
          exact S2.zbox _ k s e _ c' a2 hc'
        · intro e1
          exact hboxM i c1 hc1 hi' (e1 ▸ (S2.zone _ k s e a2).1)
      · exact S.zbox _ k s e i c1 a2 hc1
  · exact (RepN.mono (x := x2) (x' := backAux x x2 b ids wr) (fun _ _ _ h => h) u v (fun i hi => by rw [noBox_of hb i] at hi; cases hi) hr).plainV
end
end Go.Proofs.YtaddhpeainliiaaGreatDoor.Id
