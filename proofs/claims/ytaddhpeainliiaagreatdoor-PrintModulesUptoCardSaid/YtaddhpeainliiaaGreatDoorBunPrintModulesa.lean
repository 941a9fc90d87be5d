/- Texts of this repo, bundled: Kn, IdealA, IdealB, IdealC, IdealD, IdealE, IdealF. -/
import Derived.Calls
import Derived.Orders
import Derived.RowKit
import Derived.Below
import Derived.Tactics
import Derived.WalkKit
import Derived.Laws.AppendOwn
import Derived.Laws.BytesArg
import Derived.Laws.StructEq
import Derived.Laws.Slices
import Derived.Laws.Strings3
import Derived.Lib.ConvBytes
import Derived.Lib.AppendStr
import Derived.Deep.MidRow
import Derived.Laws.Cover1
/-! ## Kn -/
namespace Go.Proofs.YtaddhpeainliiaaGreatDoor.Id
open Go
def knAny (n : Nat) : Bool := !(Nat.beq n 7)
def kn (n : Nat) (t : TypeId) : Bool := match knAny n with
  | true => true
  | false => Nat.beq t 107
theorem knAny_kn {n : Nat} (h : knAny n = true) (t : TypeId) : kn n t = true := by unfold kn; rw [h]
/-- the type of bytes -/
def u8t : TypeId := 5
end Go.Proofs.YtaddhpeainliiaaGreatDoor.Id
/-! ## IdealA -/
namespace Go.Proofs.YtaddhpeainliiaaGreatDoor.Id
open Go

/-- What a cell may hold: a number, a truth, a text, a slice with all that it leads to. -/
inductive D where
  | bool (b : Bool)
  | int (k : IntKind) (n : Int)
  | str (s : ByteArray)
  | nil (n : Nat)
  | sl (n : Nat) (es : List (List D))
  deriving Inhabited
abbrev Tok := Nat × Nat
/-- What a temporary may hold. skip: what an operation yields that was passed over; nilp: no address; lit: a truth that is known; own: a slice behind whose end none but its holder writes; box: an address in a box; ref: the address of cells that never turn. -/
inductive V where
  | undef
  | skip
  | nilp
  | lit (b : Bool)
  | d (x : D)
  | agg (xs : List D)
  | own (t : Tok) (n : Nat) (es : List (List D))
  | box (i off : Nat)
  | ref (xs : List D)
  | fn (f : FuncId) (first captured : List V)
  | iface (t : TypeId) (v : V)
  | tuple (vs : List V)
  deriving Inhabited
inductive TK where
  | sc
  | agg (fs : List (Nat × Nat))
  | arr (e len : Nat)
  | sl (e n bytes : Nat)
/-- A type, as far as it is asked for: its kind, cells, zero cells; cmp: compared cell by cell. -/
structure TI where
  k : TK
  n : Nat
  zero : List V
  cmp : Bool
abbrev TT := List (Nat × TI)
def TT.get : TT → Nat → Option TI
  | [], _ => none
  | (i, x) :: r, t => match Nat.beq i t with | true => some x | false => TT.get r t
/-- surely no pointer -/
def hdNP : V → Bool
  | .d _ => true
  | .lit _ => true
  | .own _ _ _ => true
  | _ => false
/-- surely a pointer -/
def hdP : V → Bool
  | .nilp => true
  | .box _ _ => true
  | _ => false
/-- may a box of this type begin so? -/
def alOk (cs : List V) (t : TypeId) : Bool := match knAny cs.length with
  | true => true
  | false => match cs with
    | c :: _ => match hdNP c with
      | true => true
      | false => kn cs.length t
    | [] => true
/-- may this be written there? -/
def stOk (cs : List V) (off : Nat) (xs : List V) : Bool := match knAny cs.length with
  | true => true
  | false => match off, xs with
    | 0, x :: _ => match hdNP x with
      | true => true
      | false => match cs with
        | c :: _ => hdP c
        | [] => true
    | _, _ => true
structure St where
  t : List (Nat × V)
  b : List (Nat × List V)
def getT : List (Nat × V) → Nat → V
  | [], _ => .undef
  | (i, v) :: r, j => match Nat.beq i j with | true => v | false => getT r j
def getB : List (Nat × List V) → Nat → Option (List V)
  | [], _ => none
  | (i, v) :: r, j => match Nat.beq i j with | true => some v | false => getB r j
def ofConst : Value → V
  | .bool true => .lit true
  | .bool false => .lit false
  | .int k n => .d (.int k n)
  | .string s => .d (.str s)
  | .slice none 0 0 => .d (.nil 0)
  | _ => .undef
def St.ev (σ : St) : Operand → V
  | .tmp i => getT σ.t i
  | .const v => ofConst v
  | .func f => .fn f [] []
  | .global _ => .undef
def eqTok (a b : Tok) : Bool := Nat.beq a.1 b.1 && Nat.beq a.2 b.2
def scrubV (k : Tok) : V → V
  | .own t n es => match eqTok t k with | true => .d (.sl n es) | false => .own t n es
  | v => v
def scrubVs (ks : List Tok) (v : V) : V := ks.foldl (fun v k => scrubV k v) v
mutual
def hasBox (i : Nat) : V → Bool
  | .box j _ => Nat.beq i j
  | .fn _ xs ys => hasBoxes i xs || hasBoxes i ys
  | .iface _ v => hasBox i v
  | .tuple vs => hasBoxes i vs
  | _ => false
def hasBoxes (i : Nat) : List V → Bool
  | [] => false
  | v :: r => hasBox i v || hasBoxes i r
end
def dropV (i : Nat) (v : V) : V := match hasBox i v with | true => .undef | false => v
def dropVs (l : List Nat) (v : V) : V := l.foldl (fun v k => dropV k v) v
/-- a slice that is owned, as one that is read -/
def V.plain : V → V
  | .own _ n es => .d (.sl n es)
  | v => v
def D.norm : D → D
  | .nil n => .sl n []
  | x => x
def V.unlit : V → V
  | .lit b => .d (.bool b)
  | v => v
def V.norm : V → V
  | .lit b => .d (.bool b)
  | .own _ n es => .d (.sl n es)
  | .d (.nil n) => .d (.sl n [])
  | .agg xs => .agg (xs.map D.norm)
  | v => v
def V.toD : V → Option D
  | .lit b => some (.bool b)
  | .d x => some x
  | .own _ n es => some (.sl n es)
  | _ => none
def toDs : List V → Option (List D)
  | [] => some []
  | v :: r => match v.toD, toDs r with
    | some x, some xs => some (x :: xs)
    | _, _ => none
/-- what an operation does: the value, boxes written, tokens that end, boxes whose addresses end -/
structure Eff where
  v : V := .undef
  wr : List (Nat × List V) := []
  scr : List Tok := []
  drp : List Nat := []
abbrev Tmps := List (Nat × V)
abbrev Boxes := List (Nat × List V)
def cleanV (scr : List Tok) (drp : List Nat) (v : V) : V := dropVs drp (scrubVs scr v)
def cleanVs (scr : List Tok) (drp : List Nat) : List V → List V
  | [] => []
  | v :: r => cleanV scr drp v :: cleanVs scr drp r
def cleanT (scr : List Tok) (drp : List Nat) : Tmps → Tmps
  | [] => []
  | (i, v) :: r => (i, cleanV scr drp v) :: cleanT scr drp r
def cleanB (scr : List Tok) (drp : List Nat) : Boxes → Boxes
  | [] => []
  | (i, cs) :: r => (i, cleanVs scr drp cs) :: cleanB scr drp r
inductive Out where
  | ret (v : V) (bx : List (List V))
  | pan (v : V) (bx : List (List V))
inductive Ex where
  | normal
  | exit (id : Nat)
  | ret
  | pan (v : V)
/-- what a run may ask -/
inductive T (α : Type) where
  | leaf (a : α)
  | fail
  | ite (b : Bool) (x y : T α)
  | asrt (p : Prop) (x : T α)
  | idx (es : List (List D)) (j : Int) (k : List D → T α)
  | bytes (es : List (List D)) (k : ByteArray → T α)
  | call (f : FuncId) (args : List V) (bx : List (List V)) (k : Out → T α)
  | loop (c : Code) (σ : St) (k : Ex → St → T α)
noncomputable section
/- (T.bind, evOps, evD, evCode are spelled by recursors, so that Lean's two reducers take the same steps) -/
def T.bind {α β : Type} (t : T α) (f : α → T β) : T β :=
  T.rec (motive := fun _ => T β) (fun a => f a) .fail (fun b _ _ x y => .ite b x y) (fun p _ x => .asrt p x) (fun es j _ k => .idx es j k) (fun es _ k => .bytes es k) (fun g args bx _ k => .call g args bx k) (fun c σ _ k => .loop c σ k) t
section
variable {α β : Type} {f : α → T β}
theorem T.bind_leaf {a : α} : (T.leaf a).bind f = f a := rfl
theorem T.bind_fail : (T.fail : T α).bind f = .fail := rfl
theorem T.bind_ite {b : Bool} {x y : T α} : (T.ite b x y).bind f = .ite b (x.bind f) (y.bind f) := rfl
theorem T.bind_asrt {p : Prop} {x : T α} : (T.asrt p x).bind f = .asrt p (x.bind f) := rfl
theorem T.bind_idx {es : List (List D)} {j : Int} {k : List D → T α} : (T.idx es j k).bind f = .idx es j fun e => (k e).bind f := rfl
theorem T.bind_bytes {es : List (List D)} {k : ByteArray → T α} : (T.bytes es k).bind f = .bytes es fun e => (k e).bind f := rfl
theorem T.bind_call {g : FuncId} {args : List V} {bx : List (List V)} {k : Out → T α} : (T.call g args bx k).bind f = .call g args bx fun e => (k e).bind f := rfl
theorem T.bind_loop {c : Code} {σ : St} {k : Ex → St → T α} : (T.loop c σ k).bind f = .loop c σ fun e σ => (k e σ).bind f := rfl
end
/-! ### values brought to their form ahead of what follows (so that a run never computes a thing twice) -/
def forceD {α : Type} (x : D) (f : D → α) : α :=
  match x with
  | .bool b => f (.bool b)
  | .int k n => f (.int k n)
  | .str s => f (.str s)
  | .nil n => f (.nil n)
  | .sl n es => f (.sl n es)
def forceDs {α : Type} : List D → (List D → α) → α
  | [], f => f []
  | x :: r, f => forceD x fun x => forceDs r fun r => f (x :: r)
def forceV0 {α : Type} (v : V) (f : V → α) : α :=
  match v with
  | .undef => f .undef
  | .skip => f .skip
  | .nilp => f .nilp
  | .lit true => f (.lit true)
  | .lit false => f (.lit false)
  | .d x => forceD x fun x => f (.d x)
  | .agg xs => forceDs xs fun xs => f (.agg xs)
  | .own (a, b) n es => f (.own (a, b) n es)
  | .box i off => f (.box i off)
  | .ref xs => f (.ref xs)
  | .fn g xs ys => f (.fn g xs ys)
  | .iface t v => f (.iface t v)
  | .tuple vs => f (.tuple vs)
def forceVs {α : Type} : List V → (List V → α) → α
  | [], f => f []
  | v :: r, f => forceV0 v fun v => forceVs r fun r => f (v :: r)
def forceV {α : Type} (v : V) (f : V → α) : α :=
  match v with
  | .fn g xs ys => forceVs xs fun xs => forceVs ys fun ys => f (.fn g xs ys)
  | .tuple vs => forceVs vs fun vs => f (.tuple vs)
  | .iface t v => forceV0 v fun v => f (.iface t v)
  | v => forceV0 v f
def forceBs {α : Type} : List (List V) → (List (List V) → α) → α
  | [], f => f []
  | cs :: r, f => forceVs cs fun cs => forceBs r fun r => f (cs :: r)
def forceT {α : Type} : Tmps → (Tmps → α) → α
  | [], f => f []
  | (i, v) :: r, f => forceV v fun v => forceT r fun r => f ((i, v) :: r)
def forceB {α : Type} : Boxes → (Boxes → α) → α
  | [], f => f []
  | (i, cs) :: r, f => forceVs cs fun cs => forceB r fun r => f ((i, cs) :: r)
def catB : Boxes → Boxes → Boxes
  | [], b => b
  | p :: r, b => p :: catB r b
def anyBoxT (i : Nat) : Tmps → Bool
  | [] => false
  | (_, v) :: r => match hasBox i v with | true => true | false => anyBoxT i r
def anyBoxB (i : Nat) : Boxes → Bool
  | [] => false
  | (_, cs) :: r => match hasBoxes i cs with | true => true | false => anyBoxB i r
def finE {α : Type} (t : Tmps) (b : Boxes) (dst : Option Nat) (v : V) (wr : Boxes) (k : Tmps → Boxes → α) : α :=
  forceV v fun v => forceB wr fun wr => match dst with
    | some d => k ((d, v) :: t) (catB wr b)
    | none => k t (catB wr b)
def cleanE {α : Type} (t : Tmps) (b : Boxes) (scr : List Tok) (drp : List Nat) (k : Tmps → Boxes → α) : α :=
  forceT (cleanT scr drp t) fun t => forceB (cleanB scr drp b) fun b => k t b
/-- what an effect makes of the state -/
def applyE {α : Type} (t : Tmps) (b : Boxes) (dst : Option Nat) (e : Eff) (k : Tmps → Boxes → α) : α :=
  match e.scr, e.drp with
  | [], [] => finE t b dst e.v e.wr k
  | [], [d] => match anyBoxT d t, anyBoxB d b with
    | false, false => finE t b dst e.v e.wr k
    | _, _ => cleanE t b [] [d] fun t b => finE t b dst e.v e.wr k
  | scr, drp => cleanE t b scr drp fun t b => finE t b dst e.v e.wr k
/-- a value, or a panic's; and what is done -/
abbrev Res := Option V × Eff
def val (v : V) : T Res := .leaf (none, { v := v })
/-! ### operations on values -/
def bt (s : ByteArray) (i : Int) : Int := if h : i.toNat < s.size then ((s[i.toNat]'h).toNat : Int) else 0
def byteD (c : UInt8) : List D := [.int .u8 (c.toNat : Int)]
def fixnil (tt : TT) (t : Nat) (v : V) : V :=
  match v with
  | .d (.nil 0) => match TT.get tt t with
    | some ⟨.sl _ n _, _, _, _⟩ => .d (.nil n)
    | _ => v
  | _ => v
def eqD : V → D → D → Option Bool
  | .d (.bool _), .bool a, .bool b => some (a == b)
  | .d (.int _ _), .int k a, .int k' b => match decide (k = k') with
    | true => some (decide (a = b))
    | false => none
  | .d (.str _), .str a, .str b => some (decide (a = b))
  | _, _, _ => none
def eqDs : List V → List D → List D → Option Bool
  | [], [], [] => some true
  | z :: zs, x :: xs, y :: ys => match eqD z x y, eqDs zs xs ys with
    | some a, some b => some (a && b)
    | _, _ => none
  | _, _, _ => none
def bitsZ (op : BinOp) (k : IntKind) (x y : Int) : Option Int :=
  let a := BitVec.ofInt k.bits x
  let b := BitVec.ofInt k.bits y
  match op with
  | .and => some (k.wrap (a &&& b).toNat)
  | .or => some (k.wrap (a ||| b).toNat)
  | .xor => some (k.wrap (a ^^^ b).toNat)
  | _ => none
def evInt (op : BinOp) (k : IntKind) (a b : Int) : T V :=
  match op with
  | .add => .leaf (.d (.int k (k.wrap (a + b))))
  | .sub => .leaf (.d (.int k (k.wrap (a - b))))
  | .mul => .leaf (.d (.int k (k.wrap (a * b))))
  | .quo => .asrt (b ≠ 0) (.leaf (.d (.int k (k.wrap (a.tdiv b)))))
  | .rem => .asrt (b ≠ 0) (.leaf (.d (.int k (a.tmod b))))
  | .eql => .leaf (.d (.bool (decide (a = b))))
  | .neq => .leaf (.d (.bool (!decide (a = b))))
  | .lss => .leaf (.d (.bool (decide (a < b))))
  | .leq => .leaf (.d (.bool (decide (a ≤ b))))
  | .gtr => .leaf (.d (.bool (decide (b < a))))
  | .geq => .leaf (.d (.bool (decide (b ≤ a))))
  | .shl => .asrt (0 ≤ b) (.leaf (.d (.int k (k.wrap (a * 2 ^ (min b.toNat k.bits))))))
  | .shr => .asrt (0 ≤ b) (.leaf (.d (.int k (a.fdiv (2 ^ (min b.toNat k.bits))))))
  | op => match bitsZ op k a b with
    | some z => .leaf (.d (.int k z))
    | none => .fail
def evStr (op : BinOp) (a b : ByteArray) : T V :=
  match op with
  | .add => .asrt (a.size + b.size ≤ 9223372036854775807) (.leaf (.d (.str (a ++ b))))
  | .eql => .leaf (.d (.bool (decide (a = b))))
  | .neq => .leaf (.d (.bool (!decide (a = b))))
  | .lss => .leaf (.d (.bool (Op.bytesLess a.data.toList b.data.toList)))
  | .gtr => .leaf (.d (.bool (!(Op.bytesLess a.data.toList b.data.toList || decide (a = b)))))
  | .leq => .leaf (.d (.bool (Op.bytesLess a.data.toList b.data.toList || decide (a = b))))
  | .geq => .leaf (.d (.bool (!Op.bytesLess a.data.toList b.data.toList)))
  | _ => .fail
def evBin (tt : TT) (op : BinOp) (t : Nat) (x y : V) : T V :=
  match x, y with
  | .d (.int k a), .d (.int k' b) => match op with
    | .shl | .shr => evInt op k a b
    | _ => match decide (k = k') with
      | true => evInt op k a b
      | false => .fail
  | .d (.str a), .d (.str b) => evStr op a b
  | .d (.bool a), .d (.bool b) => match TT.get tt t, op with
    | some ⟨.sc, _, [.d (.bool _)], _⟩, .eql => .leaf (.d (.bool (a == b)))
    | some ⟨.sc, _, [.d (.bool _)], _⟩, .neq => .leaf (.d (.bool (!(a == b))))
    | _, _ => .fail
  | .agg xs, .agg ys => match TT.get tt t with
    | some ⟨.agg _, _, zs, true⟩ => match eqDs zs xs ys, op with
      | some b, .eql => .leaf (.d (.bool b))
      | some b, .neq => .leaf (.d (.bool (!b)))
      | _, _ => .fail
    | _ => .fail
  | _, _ => .fail
def evUn (op : UnOp) (x : V) : T V :=
  match op, x with
  | .neg, .d (.int k a) => .leaf (.d (.int k (k.wrap (0 - a))))
  | .not, .d (.bool b) => .leaf (.d (.bool (!b)))
  | _, _ => .fail
def evConv (tt : TT) (s t : Nat) (x : V) : T V :=
  match TT.get tt s, TT.get tt t, x with
  | some ⟨.sc, _, _, _⟩, some ⟨.sc, _, [.d (.int k _)], _⟩, .d (.int _ n) => .leaf (.d (.int k (k.wrap n)))
  | some ⟨.sc, _, _, _⟩, some ⟨.sc, _, [.d (.str _)], _⟩, .d (.str s) => .leaf (.d (.str s))
  | some ⟨.sl _ 1 _, _, _, true⟩, some ⟨.sc, _, [.d (.str _)], _⟩, v => match v.norm with
    | .d (.sl 1 es) => .bytes es fun b => .leaf (.d (.str b))
    | _ => .fail
  | some ⟨.sc, _, [.d (.str _)], _⟩, some ⟨.sl _ 1 _, _, _, true⟩, .d (.str s) => .leaf (.d (.sl 1 (s.data.toList.map byteD)))
  | _, _, _ => .fail
/-- a value's cells, at a type of so many -/
def cellsOf (ti : TI) (v : V) : Option (List V) :=
  match ti.k, v with
  | .agg _, .agg xs | .arr _ _, .agg xs => match Nat.beq xs.length ti.n with
    | true => some (xs.map .d)
    | false => none
  | .agg _, _ | .arr _ _, _ => none
  | _, .agg _ | _, .tuple _ | _, .undef | _, .skip => none
  | _, v => some [v]
def setAt : List V → Nat → List V → List V
  | cs, _, [] => cs
  | [], _, _ => []
  | _ :: cs, 0, x :: xs => x :: setAt cs 0 xs
  | c :: cs, i + 1, xs => c :: setAt cs i xs
def setDs : List D → Nat → List D → List D
  | cs, _, [] => cs
  | [], _, _ => []
  | _ :: cs, 0, x :: xs => x :: setDs cs 0 xs
  | c :: cs, i + 1, xs => c :: setDs cs i xs
def takeD : Nat → List D → Option (List D)
  | 0, _ => some []
  | _ + 1, [] => none
  | n + 1, x :: xs => match takeD n xs with
    | some r => some (x :: r)
    | none => none
def takeV : Nat → List V → Option (List D)
  | 0, _ => some []
  | _ + 1, [] => none
  | n + 1, x :: xs => match x.toD, takeV n xs with
    | some d, some r => some (d :: r)
    | _, _ => none
def loadV (ti : TI) (cs : List V) : Option V :=
  match ti.k with
  | .agg _ | .arr _ _ => match takeV ti.n cs with
    | some r => some (.agg r)
    | none => none
  | _ => match cs with
    | x :: _ => some x
    | [] => none
def loadD (ti : TI) (cs : List D) : Option V :=
  match ti.k with
  | .agg _ | .arr _ _ => match takeD ti.n cs with
    | some r => some (.agg r)
    | none => none
  | _ => match cs with
    | x :: _ => some (.d x)
    | [] => none
def slOf : V → Option (Nat × List (List D))
  | .own _ n es => some (n, es)
  | .d (.sl n es) => some (n, es)
  | .d (.nil n) => some (n, [])
  | _ => none
def here : Nat := 1000000
def byteEs (s : ByteArray) : List (List D) := s.data.toList.map byteD
/-- no byte first, but in rows of bytes -/
def noU8 : List (List D) → Bool
  | ((.int .u8 _) :: _) :: _ => false
  | (_ :: _) :: _ => true
  | _ => true
def okHd (e n : Nat) (es ys : List (List D)) : Bool :=
  match Nat.beq e u8t with
  | true => true
  | false => match Nat.beq n 1 with
    | false => true
    | true => match es with
      | [] => noU8 ys
      | es => noU8 es
def evAppend (tt : TT) (o : Oper) (t : Nat) (x y : V) : T Res :=
  match TT.get tt t, o.dst with
  | some ⟨.sl e n by_, _, _, _⟩, some d =>
    let ys : Option (List (List D)) := match y with
      | .d (.str s) => match n with
        | 1 => some (byteEs s)
        | _ => none
      | v => match slOf v with
        | some (m, es) => match es with
          | [] => some []
          | es => match Nat.beq m n with
            | true => some es
            | false => none
        | none => none
    match x, ys with
    | .own k m es, some ys => match Nat.beq m n, okHd e n es ys with
      | true, true => .asrt ((es.length + ys.length) * by_ ≤ 140737488355328) (.leaf (none, { v := .own k n (es ++ ys), scr := [k] }))
      | _, _ => .fail
    | .d (.nil _), some ys => match okHd e n [] ys with
      | true => .asrt (ys.length * by_ ≤ 140737488355328) (.leaf (none, { v := .own (d, here) n ys, scr := [(d, here)] }))
      | false => .fail
    | _, _ => .fail
  | _, _ => .fail
def setEs : List (List D) → Nat → List D → List (List D)
  | [], _, _ => []
  | _ :: cs, 0, x => x :: cs
  | c :: cs, i + 1, x => c :: setEs cs i x
def fillS (tt : TT) (ti : TI) (n : Nat) : List (Nat × V) → List (List D) → Option (List (List D))
  | [], es => some es
  | (i, v) :: r, es => match cellsOf ti v with
    | some cs => match toDs cs with
      | some ds => match Nat.beq ds.length n, Nat.blt i es.length with
        | true, true => fillS tt ti n r (setEs es i (ds.map D.norm))
        | _, _ => none
      | none => none
    | none => none
def fillF (tt : TT) (fs : List (Nat × Nat)) : List (Nat × V) → List D → Option (List D)
  | [], ds => some ds
  | (i, v) :: r, ds => match fs[i]? with
    | some (off, ft) => match TT.get tt ft with
      | some ti => match cellsOf ti v with
        | some cs => match toDs cs with
          | some xs => match Nat.ble (off + xs.length) ds.length with
            | true => fillF tt fs r (setDs ds off xs)
            | false => none
          | none => none
        | none => none
      | none => none
    | none => none
/-! ### calls -/
def base : Nat := 1000000
mutual
def boxIds : V → List Nat
  | .box i _ => [i]
  | .fn _ xs ys => boxIdss xs ++ boxIdss ys
  | .iface _ v => boxIds v
  | .tuple vs => boxIdss vs
  | _ => []
def boxIdss : List V → List Nat
  | [] => []
  | v :: r => boxIds v ++ boxIdss r
end
def memN (i : Nat) : List Nat → Bool
  | [] => false
  | j :: r => Nat.beq i j || memN i r
def addAll : List Nat → List Nat → List Nat
  | l, [] => l
  | l, i :: r => match memN i l with
    | true => addAll l r
    | false => addAll (l ++ [i]) r
def cellIds (β : Nat → Option (List V)) : List Nat → List Nat
  | [] => []
  | i :: r => (match β i with | some cs => boxIdss cs | none => []) ++ cellIds β r
def posOf (i : Nat) : List Nat → Nat → Option Nat
  | [], _ => none
  | j :: r, n => match Nat.beq i j with | true => some n | false => posOf i r (n + 1)
mutual
def ren (f : Nat → Option Nat) : V → V
  | .box i off => match f i with | some j => .box j off | none => .undef
  | .fn g xs ys => .fn g (rens f xs) (rens f ys)
  | .iface t v => .iface t (ren f v)
  | .tuple vs => .tuple (rens f vs)
  | v => v
def rens (f : Nat → Option Nat) : List V → List V
  | [] => []
  | v :: r => ren f v :: rens f r
end
/-- a box's cells under new names: its own tokens stay, others are lost -/
def cellsRen (f : Nat → Option Nat) (i i' : Nat) : List V → Nat → List V
  | [], _ => []
  | v :: r, c => (match v with
    | .own t n es => match eqTok t (i, c) with
      | true => .own (i', c) n es
      | false => .d (.sl n es)
    | v => ren f v) :: cellsRen f i i' r (c + 1)
def boxesIn (β : Nat → Option (List V)) (f : Nat → Option Nat) : List Nat → Nat → Option (List (List V))
  | [], _ => some []
  | i :: r, j => match β i, boxesIn β f r (j + 1) with
    | some cs, some l => some (cellsRen f i (base + j) cs 0 :: l)
    | _, _ => none
def unb (ids : List Nat) (i : Nat) : Option Nat := match Nat.ble base i with
  | true => ids[i - base]?
  | false => none
def boxesOut (ids : List Nat) : List Nat → Nat → List (List V) → Option (List (Nat × List V))
  | [], _, [] => some []
  | i :: r, j, cs :: l => match boxesOut ids r (j + 1) l with
    | some w => some ((i, cellsRen (unb ids) (base + j) i cs 0) :: w)
    | none => none
  | _, _, _ => none
def toksOf (i : Nat) : List V → Nat → List Tok
  | [], _ => []
  | .own _ _ _ :: r, c => (i, c) :: toksOf i r (c + 1)
  | _ :: r, c => toksOf i r (c + 1)
def catK : List Tok → List Tok → List Tok
  | [], l => l
  | k :: r, l => k :: catK r l
def allToks : Boxes → List Tok
  | [] => []
  | (i, cs) :: r => catK (toksOf i cs 0) (allToks r)
def boxesAt (β : Nat → Option (List V)) : List Nat → Boxes
  | [] => []
  | i :: r => match β i with
    | some cs => (i, cs) :: boxesAt β r
    | none => boxesAt β r
def fixArgs (tt : TT) : List V → List TypeId → List V
  | v :: r, t :: ts => fixnil tt t v :: fixArgs tt r ts
  | l, _ => l
def forceNs {α : Type} : List Nat → (List Nat → α) → α
  | [], f => f []
  | n :: r, f => forceNs r fun r => f (n :: r)
def allIn (l : List Nat) : List Nat → Bool
  | [] => true
  | i :: r => match memN i l with | true => allIn l r | false => false
def normVs : List V → List V
  | [] => []
  | v :: r => v.norm :: normVs r
def evCall (g : FuncId) (args : List V) (β : Nat → Option (List V)) : T Res :=
  forceVs args fun args => forceNs (addAll [] (boxIdss args)) fun l0 => forceNs (addAll l0 (cellIds β l0)) fun l1 => forceNs (addAll l1 (cellIds β l1)) fun ids =>
  match allIn ids (cellIds β ids), boxesIn β (fun i => (posOf i ids 0).map (base + ·)) ids 0 with
  | true, some bx => forceBs bx fun bx => forceVs (normVs (rens (fun i => (posOf i ids 0).map (base + ·)) args)) fun args => .call g args bx fun
    | .ret v bx' => match boxesOut ids ids 0 bx', boxIds v with
      | some w, [] => .leaf (none, { v := v.plain, wr := w, scr := catK (allToks (boxesAt β ids)) (allToks w) })
      | _, _ => .fail
    | .pan v bx' => match boxesOut ids ids 0 bx', boxIds v with
      | some w, [] => .leaf (some v, { wr := w, scr := catK (allToks (boxesAt β ids)) (allToks w) })
      | _, _ => .fail
  | _, _ => .fail
def evBuiltin (tt : TT) (o : Oper) (b : Builtin) (ts : List TypeId) (xs : List V) : T Res :=
  match b, ts, xs with
  | .len, [t], [x] => match TT.get tt t, x with
    | some ⟨.sc, _, [.d (.str _)], _⟩, .d (.str s) => val (.d (.int .i64 s.size))
    | some ⟨.sl _ _ _, _, _, _⟩, x => match slOf x with
      | some (_, es) => val (.d (.int .i64 es.length))
      | none => .fail
    | _, _ => .fail
  | .append, [t, u], [x, y] => match TT.get tt u with
    | some ⟨.sl _ _ _, _, _, _⟩ | some ⟨.sc, _, [.d (.str _)], _⟩ => evAppend tt o t x y
    | _ => .fail
  | .min, _, [.d (.int k a), .d (.int _ b)] => val (.d (.int k (if b < a then b else a)))
  | .max, _, [.d (.int k a), .d (.int _ b)] => val (.d (.int k (if a < b then b else a)))
  | _, _, _ => .fail
def intOf : V → Option Int
  | .d (.int _ n) => some n
  | _ => none
def optInt (ρ : Operand → V) : Option Operand → Option (Option Int)
  | none => some none
  | some x => match intOf (ρ x) with
    | some n => some (some n)
    | none => none
def evSlice (tt : TT) (t : Nat) (x : V) (lo hi : Option Int) : T Res :=
  match x, TT.get tt t with
  | .d (.str s), some ⟨.sc, _, [.d (.str _)], _⟩ =>
    let l := lo.getD 0
    let h := hi.getD s.size
    .asrt (0 ≤ l ∧ l ≤ h ∧ h ≤ s.size) (val (.d (.str (s.extract l.toNat h.toNat))))
  | v, some ⟨.sl _ q _, _, _, _⟩ => match slOf v with
    | some (n, es) => match Nat.beq q n with
      | true =>
        let l := lo.getD 0
        let h := hi.getD es.length
        .asrt (0 ≤ l ∧ l ≤ h ∧ h ≤ es.length) (val (.d (.sl n ((es.take h.toNat).drop l.toNat))))
      | false => .fail
    | none => .fail
  | _, _ => .fail
def isAgg : TK → Bool
  | .agg _ | .arr _ _ => true
  | _ => false
/-- one operation, at the values of its operands and the boxes -/
def opEff (tt : TT) (o : Oper) (ρ : Operand → V) (β : Nat → Option (List V)) : T Res :=
  match o.op with
  | .move x | .assign x => val (fixnil tt o.type (ρ x))
  | .pick c a b => match ρ c with
    | .lit true => val (ρ a)
    | .lit false => val (ρ b)
    | .d (.bool c) => .ite c (val (ρ a)) (val (ρ b))
    | _ => .fail
  | .alloc t => match o.dst, TT.get tt t with
    | some d, some ti => match alOk ti.zero t with
      | true => .leaf (none, { v := .box d 0, wr := [(d, ti.zero)], drp := [d] })
      | false => .fail
    | _, _ => .fail
  | .box t x => match o.dst, TT.get tt t with
    | some d, some ti => match cellsOf ti (ρ x).plain with
      | some cs => match alOk cs t with
        | true => .leaf (none, { v := .box d 0, wr := [(d, cleanVs [] [d] cs)], drp := [d] })
        | false => .fail
      | none => .fail
    | _, _ => .fail
  | .build t ps => match TT.get tt t with
    | some ⟨.agg fs, _, zero, _⟩ => match toDs zero with
      | some z => match fillF tt fs (ps.toList.map fun p => (p.1, ρ p.2)) z with
        | some ds => val (.agg ds)
        | none => .fail
      | none => .fail
    | some ⟨.arr e len, _, zero, _⟩ => match TT.get tt e, toDs zero with
      | some te, some z => match fillF tt ((List.range len).map fun i => (i * te.n, e)) (ps.toList.map fun p => (p.1, ρ p.2)) z with
        | some ds => val (.agg ds)
        | none => .fail
      | _, _ => .fail
    | _ => .fail
  | .buildSlice t len ps => match o.dst, TT.get tt t with
    | some d, some ⟨.sl e n _, _, _, _⟩ => match TT.get tt e with
      | some te => match toDs te.zero with
        | some z => match Nat.ble (len * n) 16777216, fillS tt te n (ps.toList.map fun p => (p.1, ρ p.2)) (List.replicate len z) with
          | true, some es => match okHd e n [] es with
            | true => .leaf (none, { v := .own (d, here) n es, scr := [(d, here)] })
            | false => .fail
          | _, _ => .fail
        | none => .fail
      | none => .fail
    | _, _ => .fail
  | .load t a => match TT.get tt t, ρ a with
    | some ti, .box i off => match β i with
      | some cs => match loadV ti (cs.drop off) with
        | some v => val v
        | none => .fail
      | none => .fail
    | some ti, .ref xs => match loadD ti xs with
      | some v => val v
      | none => .fail
    | _, _ => .fail
  | .store t a x => match TT.get tt t, ρ a with
    | some ti, .box i off => match β i, cellsOf ti (ρ x) with
      | some cs, some xs => match Nat.ble (off + xs.length) cs.length, xs with
        | true, [.own k n es] => .leaf (none, { wr := [(i, setAt (cleanVs [k, (i, off)] [] cs) off [.own (i, off) n es])], scr := [k, (i, off)] })
        | true, xs => match stOk cs off xs with
          | true => .leaf (none, { wr := [(i, setAt cs off xs)] })
          | false => .fail
        | false, _ => .fail
      | _, _ => .fail
    | _, _ => .fail
  | .nilCheck x => match ρ x with
    | .box i off => val (.box i off)
    | .ref xs => val (.ref xs)
    | .fn f a b => val (.fn f a b)
    | _ => .fail
  | .binOp op t x y _ => (evBin tt op t (ρ x).unlit (ρ y).unlit).bind val
  | .unOp op _ x => (evUn op (ρ x).unlit).bind val
  | .convert s t x => (evConv tt s t (ρ x)).bind val
  | .makeInterface t x => match TT.get tt t, (ρ x).norm with
    | some ⟨.sc, _, [.d _], _⟩, .d v => val (.iface t (.d v))
    | some ⟨.agg _, _, _, _⟩, .agg vs => val (.iface t (.agg vs))
    | _, _ => .fail
  | .makeFunc (.func f) a b => val (.fn f (a.toList.map fun x => (ρ x).plain) (b.toList.map fun x => (ρ x).plain))
  | .slice t x lo hi none => match optInt ρ lo, optInt ρ hi with
    | some l, some h => evSlice tt t (ρ x) l h
    | _, _ => .fail
  | .fieldAddr s x f => match TT.get tt s with
    | some ⟨.agg fs, _, _, _⟩ => match fs[f]?, ρ x with
      | some (off, _), .box i o => val (.box i (o + off))
      | some (off, _), .ref xs => val (.ref (xs.drop off))
      | _, _ => .fail
    | _ => .fail
  | .field s x f => match TT.get tt s, ρ x with
    | some ⟨.agg fs, _, _, _⟩, .agg xs => match fs[f]? with
      | some (off, ft) => match TT.get tt ft with
        | some ti => match loadD ti (xs.drop off) with
          | some v => val v
          | none => .fail
        | none => .fail
      | none => .fail
    | _, _ => .fail
  | .indexAddr t x i => match TT.get tt t, slOf (ρ x), intOf (ρ i) with
    | some ⟨.sl _ n _, _, _, _⟩, some (m, es), some j => .idx es j fun e => match Nat.beq m n with
      | true => val (.ref e)
      | false => .fail
    | _, _, _ => .fail
  | .index t x i => match TT.get tt t, ρ x, intOf (ρ i) with
    | some ⟨.sc, _, [.d (.str _)], _⟩, .d (.str s), some j => .asrt (0 ≤ j ∧ j < s.size) (val (.d (.int .u8 (bt s j))))
    | some ⟨.arr e len, _, _, _⟩, .agg xs, some j => match TT.get tt e with
      | some ⟨.sc, 1, _, _⟩ => .idx (xs.map fun x => [x]) j fun c => match c, Nat.beq xs.length len with
        | [x], true => val (.d x)
        | _, _ => .fail
      | _ => .fail
    | _, _, _ => .fail
  | .extract x i => match ρ x with
    | .tuple vs => match vs[i]? with
      | some v => val v.plain
      | none => .fail
    | _ => .fail
  | .panic x => match ρ x with
    | .iface t v => .leaf (some (.iface t v), {})
    | _ => .fail
  | .call c => match c.callee with
    | .builtin b => evBuiltin tt o b c.argTypes.toList (c.args.toList.map ρ)
    | .value f => match ρ f with
      | .fn g a b => evCall g (a ++ fixArgs tt (c.args.toList.map ρ) c.argTypes.toList ++ b) β
      | _ => .fail
    | _ => .fail
  | _ => .fail
/-! ### code -/
def evOp (tt : TT) (o : Oper) (t : Tmps) (b : Boxes) : T (Option V × St) :=
  (opEff tt o (St.ev ⟨t, b⟩) (getB b)).bind fun r => match r with
    | (none, e) => applyE t b o.dst e fun t b => .leaf (none, ⟨t, b⟩)
    | (some v, e) => applyE t b none { e with v := .undef } fun t b => .leaf (some v, ⟨t, b⟩)
def putT (dst : Option Nat) (v : V) (t : Tmps) : Tmps := match dst with
  | some d => (d, v) :: t
  | none => t
def evGuard (tt : TT) (ops : Array Oper) (o : Oper) (t : Tmps) (b : Boxes) : T (Option V × St) :=
  match o.guard with
  | none => evOp tt o t b
  | some (j, want) => match (ops[j]?).bind (·.dst) with
    | none => .fail
    | some d => match getT t d, want with
      | .lit true, true | .lit false, false => evOp tt o t b
      | .lit false, true | .lit true, false | .skip, _ => .leaf (none, ⟨putT o.dst .skip t, b⟩)
      | .d (.bool c), true => .ite c (evOp tt o ((d, .lit true) :: t) b) (.leaf (none, ⟨putT o.dst .skip ((d, .lit false) :: t), b⟩))
      | .d (.bool c), false => .ite c (.leaf (none, ⟨putT o.dst .skip ((d, .lit true) :: t), b⟩)) (evOp tt o ((d, .lit false) :: t) b)
      | _, _ => .fail
def evOps (tt : TT) (ops : Array Oper) (l : List Oper) : Tmps → Boxes → T (Ex × St) :=
  List.rec (motive := fun _ => Tmps → Boxes → T (Ex × St)) (fun t b => .leaf (.normal, ⟨t, b⟩))
    (fun o _ ih t b => (evGuard tt ops o t b).bind fun x => match x with
      | (none, ⟨t, b⟩) => ih t b
      | (some v, σ) => .leaf (.pan v, σ)) l
/-! ### regions whose order is drawn: run in the order of the text; each operation's value, what it wrote and what it looked at are kept, and asked to be the same in every order -/
structure Rec where
  i : Nat
  v : V
  wr : Boxes
  ft : List Nat
  sc : List Tok
  cl : Bool
def memK (t : Tok) : List Tok → Bool
  | [] => false
  | k :: r => eqTok t k || memK t r
/-- where a token ends in a drawn region, nothing is said of its slice any more -/
def scV (sc : List Tok) : V → V
  | .own t n es => match memK t sc with | true => .undef | false => .own t n es
  | v => v
def scVs (sc : List Tok) : List V → List V
  | [] => []
  | v :: r => scV sc v :: scVs sc r
def scTg (sc : List Tok) : Tmps → Tmps
  | [] => []
  | (i, v) :: r => (i, scV sc v) :: scTg sc r
def scBg (sc : List Tok) : Boxes → Boxes
  | [] => []
  | (i, cs) :: r => (i, scVs sc cs) :: scBg sc r
def scT (sc : List Tok) (t : Tmps) : Tmps := match sc with
  | [] => t
  | k1 :: ks => scTg (k1 :: ks) t
def scB (sc : List Tok) (b : Boxes) : Boxes := match sc with
  | [] => b
  | k1 :: ks => scBg (k1 :: ks) b
def scE {α : Type} (t : Tmps) (b : Boxes) (sc : List Tok) (k : Tmps → Boxes → α) : α :=
  match sc with
  | [] => k t b
  | k1 :: ks => forceT (scTg (k1 :: ks) t) fun t => forceB (scBg (k1 :: ks) b) fun b => k t b
/-- no slice that is owned, and none of which nothing is said -/
def nice : V → Bool
  | .undef => false
  | .own _ _ _ => false
  | _ => true
def niceAll (t : Tmps) : List Nat → Bool
  | [] => true
  | d :: r => match nice (getT t d) with | true => niceAll t r | false => false
def callFoot (args : List V) (β : Nat → Option (List V)) : List Nat :=
  addAll (addAll (addAll [] (boxIdss args)) (cellIds β (addAll [] (boxIdss args)))) (cellIds β (addAll (addAll [] (boxIdss args)) (cellIds β (addAll [] (boxIdss args)))))
/-- the boxes that an operation looks at or writes -/
def footB (tt : TT) (o : Oper) (ρ : Operand → V) (β : Nat → Option (List V)) : List Nat :=
  match o.op with
  | .load _ a | .store _ a _ => match ρ a with
    | .box i _ => [i]
    | _ => []
  | .alloc _ | .box _ _ => match o.dst with
    | some d => [d]
    | none => []
  | .call c => match c.callee with
    | .value f => match ρ f with
      | .fn _ a b => callFoot (a ++ fixArgs tt (c.args.toList.map ρ) c.argTypes.toList ++ b) β
      | _ => []
    | _ => []
  | _ => []
def eqOpt : Option Nat → Option Nat → Bool
  | some a, some b => Nat.beq a b
  | _, _ => false
def isNew : Op → Bool
  | .alloc _ | .box _ _ => true
  | _ => false
def opEffD (tt : TT) (o : Oper) (ρ : Operand → V) (β : Nat → Option (List V)) : T Res :=
  match o.op with
  | .buildSlice _ _ _ => (opEff tt o ρ β).bind fun r => match r with
    | (none, { v := .own _ n es, .. }) => .leaf (none, { v := .d (.sl n es) })
    | _ => .fail
  | _ => (opEff tt o ρ β).bind fun r => match r.2.drp with
    | [] => .leaf r
    | [d] => match isNew o.op && eqOpt (some d) o.dst with
      | true => .leaf r
      | false => .fail
    | _ => .fail
def wantD (ops : Array Oper) (o : Oper) (t : Tmps) : T Bool :=
  match o.guard with
  | none => .leaf true
  | some (j, want) => match (ops[j]?).bind (·.dst) with
    | none => .fail
    | some d => match getT t d with
      | .lit c => .leaf (c == want)
      | .skip => .leaf false
      | .d (.bool c) => .ite c (.leaf want) (.leaf (!want))
      | _ => .fail
def evD (tt : TT) (ops : Array Oper) (l : List Oper) : Nat → Tmps → Boxes → List Rec → T (List Rec × Option V × St) :=
  List.rec (motive := fun _ => Nat → Tmps → Boxes → List Rec → T (List Rec × Option V × St)) (fun _ t b rs => .leaf (rs, none, ⟨t, b⟩))
    (fun o _ ih i t b rs => (wantD ops o t).bind fun
      | false => ih (i + 1) (putT o.dst .skip t) b (⟨i, .skip, [], [], [], niceAll t (o.looksAt ops)⟩ :: rs)
      | true => forceNs (footB tt o (St.ev ⟨t, b⟩) (getB b)) fun ft => (opEffD tt o (St.ev ⟨t, b⟩) (getB b)).bind fun
        | (none, e) => forceV e.v fun v => forceB e.wr fun wr => scE t b e.scr fun t1 b1 => ih (i + 1) (putT o.dst v t1) (catB wr b1) (⟨i, v, wr, ft, e.scr, niceAll t (o.looksAt ops)⟩ :: rs)
        | (some u, e) => forceB e.wr fun wr => scE t b e.scr fun _ b1 => .leaf (⟨i, .undef, wr, ft, e.scr, niceAll t (o.looksAt ops)⟩ :: rs, some u, ⟨t, catB wr b1⟩)) l
/-- direct edges -/
def hasEdge (ops : Array Oper) (i p : Nat) : Bool := match ops[i]? with
  | some o => o.after.toList.any fun e => Region.binds .any e && Nat.beq e.on p
  | none => false
def inOpt (d : Option Nat) (l : List Nat) : Bool := match d with
  | some d => memN d l
  | none => false
def statPair (ops : Array Oper) (p i : Nat) (o q : Oper) : Bool :=
  (!(inOpt o.dst (q.looksAt ops) || eqOpt o.dst q.dst || inOpt q.dst (o.looksAt ops))) || hasEdge ops i p
def statFrom (ops : Array Oper) (q : Oper) (i : Nat) : List Oper → Nat → Bool
  | [], _ => true
  | o :: r, p => (match Nat.blt p i with | true => statPair ops p i o q | false => true) && statFrom ops q i r (p + 1)
def statGo (ops : Array Oper) : List Oper → Nat → Bool
  | [], _ => true
  | o :: r, i => (o.after.toList.all fun e => !Region.binds .any e || Nat.blt e.on i) && statFrom ops o i ops.toList 0 && statGo ops r (i + 1)
def statOk (ops : Array Oper) : Bool := statGo ops ops.toList 0
def anyEdge (l : List Nat) : List Edge → Bool
  | [] => false
  | e :: r => (Region.binds .any e && memN e.on l) || anyEdge l r
def reachGo : List Oper → Nat → List Nat → List Nat
  | [], _, acc => acc
  | o :: r, k, acc => match anyEdge acc o.after.toList with
    | true => reachGo r (k + 1) (k :: acc)
    | false => reachGo r (k + 1) acc
/-- i and what comes behind it in every order -/
def reach (ops : Array Oper) (i : Nat) : List Nat := reachGo (ops.toList.drop (i + 1)) (i + 1) [i]
def isRow : Op → Bool
  | .buildSlice _ _ _ => true
  | _ => false
def newsOf : List Oper → List Nat
  | [] => []
  | o :: r => match isNew o.op, o.dst with
    | true, some d => d :: newsOf r
    | _, _ => newsOf r
def rowsOf : List Oper → List Tok
  | [] => []
  | o :: r => match isRow o.op, o.dst with
    | true, some d => (d, here) :: rowsOf r
    | _, _ => rowsOf r
def isTok (k : Tok) : V → Bool
  | .own t _ _ => eqTok t k
  | _ => false
def anyTok (k : Tok) : List V → Bool
  | [] => false
  | v :: r => isTok k v || anyTok k r
def recTok (k : Tok) (r : Rec) : Bool := isTok k r.v || r.wr.any fun p => anyTok k p.2
def recBox (d : Nat) (r : Rec) : Bool := hasBox d r.v || r.wr.any fun p => hasBoxes d p.2
def meets (r p : Rec) : Bool := r.ft.any fun q => p.wr.any fun z => Nat.beq z.1 q
/-- p writes what r looks at: so one comes behind the other in every order -/
def pairOk (ops : Array Oper) (r p : Rec) : Bool :=
  Nat.beq r.i p.i || !meets r p || match Nat.blt p.i r.i with
    | true => memN r.i (reach ops p.i)
    | false => memN p.i (reach ops r.i)
def newOk (ops : Array Oper) (rs : List Rec) (r : Rec) : Bool :=
  match ops[r.i]? with
  | some o => match isNew o.op, isRow o.op, o.dst with
    | true, _, some d => rs.all fun p => memN p.i (reach ops r.i) || !recBox d p
    | _, true, some d => rs.all fun p => !recTok (d, here) p
    | _, _, _ => true
  | none => true
def panOk (ops : Array Oper) (n : Nat) : List Rec → Bool
  | [] => true
  | r :: rs => (List.range' (r.i + 1) (n - (r.i + 1))).all (fun j => memN j (reach ops r.i)) && rs.all fun p => memN r.i (reach ops p.i) || (p.wr.isEmpty && p.sc.isEmpty)
def inLine (ops : Array Oper) (r p : Rec) : Bool :=
  match Nat.blt p.i r.i with
  | true => memN r.i (reach ops p.i)
  | false => memN p.i (reach ops r.i)
/-- p ends tokens: all else stands ahead of it or behind it in every order, or has nothing to do with slices that are owned -/
def endsOk (ops : Array Oper) (rs : List Rec) (p : Rec) : Bool :=
  match p.sc with
  | [] => true
  | ks => rs.all fun r => Nat.beq r.i p.i || inLine ops r p || (r.cl && r.ft.isEmpty && r.sc.isEmpty && ks.all fun k => !recTok k r)
def dynOk (ops : Array Oper) (rs : List Rec) (pan : Bool) : Bool :=
  rs.all (fun r => rs.all fun p => pairOk ops r p) && rs.all (fun r => newOk ops rs r && r.wr.all fun z => memN z.1 r.ft) && (!pan || panOk ops ops.size rs) && rs.all (endsOk ops rs)
def exOf : Option V → Ex
  | some v => .pan v
  | none => .normal
def evDrawn (tt : TT) (ops : Array Oper) (t : Tmps) (b : Boxes) : T (Ex × St) :=
  .asrt (statOk ops = true) (match newsOf ops.toList, rowsOf ops.toList with
    | [], [] => (evD tt ops ops.toList 0 t b []).bind fun | (rs, p, σ) => .asrt (dynOk ops rs p.isSome = true) (.leaf (exOf p, σ))
    | ns, ts => cleanE t b ts ns fun t b => (evD tt ops ops.toList 0 t b []).bind fun | (rs, p, σ) => .asrt (dynOk ops rs p.isSome = true) (.leaf (exOf p, σ)))
/-- the temporaries that are still spoken of, each brought to its form -/
def prune {α : Type} (l : List Nat) : Tmps → (Tmps → α) → α
  | [], f => f []
  | (i, v) :: r, f => match memN i l with
    | true => forceV v fun v => prune l r fun r => f ((i, v) :: r)
    | false => prune l r f
/-- G: the temporaries that outlive a region (none: all) -/
def evRegion (tt : TT) (G : Option (List Nat)) (ops : Array Oper) (draw : Bool) (t : Tmps) (b : Boxes) : T (Ex × St) :=
  match draw, G with
  | false, none => evOps tt ops ops.toList t b
  | false, some l => prune l t fun t => forceB b fun b => evOps tt ops ops.toList t b
  | true, none => evDrawn tt ops t b
  | true, some l => prune l t fun t => forceB b fun b => evDrawn tt ops t b
def evCode (tt : TT) (G : Option (List Nat)) (c : Code) : Tmps → Boxes → T (Ex × St) :=
  Code.rec (motive := fun _ => Tmps → Boxes → T (Ex × St)) (fun t b => .leaf (.normal, ⟨t, b⟩)) (fun _ ops draw t b => evRegion tt G ops draw t b)
    (fun _ _ x y t b => (x t b).bind fun r => match r with
      | (.normal, ⟨t, b⟩) => y t b
      | r => .leaf r)
    (fun c _ _ x y t b => match St.ev ⟨t, b⟩ c with
      | .lit true => x t b
      | .lit false => y t b
      | .d (.bool q) => .ite q (x t b) (y t b)
      | _ => .fail)
    (fun id _ x t b => (x t b).bind fun r => match r with
      | (.exit j, σ) => match Nat.beq j id with
        | true => .leaf (.normal, σ)
        | false => .leaf (.exit j, σ)
      | r => .leaf r)
    (fun c _ t b => .loop c ⟨t, b⟩ fun e σ => .leaf (e, σ))
    (fun _ _ _ _ _ _ _ _ => .fail) (fun id t b => .leaf (.exit id, ⟨t, b⟩)) (fun _ _ _ _ => .fail) (fun _ t b => .leaf (.normal, ⟨t, b⟩)) (fun _ _ _ => .fail) (fun t b => .leaf (.ret, ⟨t, b⟩)) (fun _ _ _ => .fail) c
/-- every place that is written is one of so many -/
def dstOk (n : Nat) : Code → Bool
  | .region _ ops _ => ops.toList.all fun o => match o.dst with
    | some d => Nat.blt d n
    | none => true
  | .seq a b | .cond _ a b | .rangeFunc _ _ a b => dstOk n a && dstOk n b
  | .block _ c | .loop c | .scope c => dstOk n c
  | _ => true
def resOf (tt : TT) (σ : St) : ResultVar → Option V
  | .tmp t => some (getT σ.t t).norm
  | .cell a t => match getT σ.t a, TT.get tt t with
    | .box i off, some ti => match getB σ.b i with
      | some cs => match loadV ti (cs.drop off) with
        | some v => some v.norm
        | none => none
      | none => none
    | _, _ => none
def resAll (tt : TT) (σ : St) : List ResultVar → Option (List V)
  | [] => some []
  | r :: l => match resOf tt σ r, resAll tt σ l with
    | some v, some vs => some (v :: vs)
    | _, _ => none
def oneRes : List V → V
  | [v] => v
  | vs => .tuple vs
theorem oneRes_1 (v : V) : oneRes [v] = v := rfl
def keepB (n : Nat) (i : Nat) : Option Nat := match Nat.ble base i && Nat.blt i (base + n) with
  | true => some i
  | false => none
def outB (σ : St) (n : Nat) : Nat → Option (List (List V))
  | 0 => some []
  | m + 1 => match getB σ.b (base + (n - (m + 1))), outB σ n m with
    | some cs, some l => some (cellsRen (keepB n) (base + (n - (m + 1))) (base + (n - (m + 1))) cs 0 :: l)
    | _, _ => none
def fin (tt : TT) (fn : Func) (n : Nat) (x : Ex × St) : T Out :=
  match outB x.2 n n with
  | none => .fail
  | some bx => match x.1 with
    | .normal | .ret => match resAll tt x.2 fn.results.toList with
      | some vs => forceVs vs fun vs => forceBs bx fun bx => forceV (oneRes vs) fun v => .leaf (.ret v bx)
      | none => .fail
    | .pan v => forceBs bx fun bx => .leaf (.pan v bx)
    | _ => .fail
def number {α : Type} (b : Nat) : List α → Nat → List (Nat × α)
  | [], _ => []
  | x :: r, i => (b + i, x) :: number b r (i + 1)
def evBody (tt : TT) (G : Option (List Nat)) (fn : Func) (args : List V) (bx : List (List V)) : T Out :=
  match fn.body with
  | some c => match dstOk fn.ntmps c && Nat.ble args.length fn.ntmps && Nat.ble fn.ntmps base with
    | true => (evCode tt G c (number 0 args 0) (number base bx 0)).bind (fin tt fn bx.length)
    | false => .fail
  | none => .fail
end
end Go.Proofs.YtaddhpeainliiaaGreatDoor.Id
/-! ## IdealB -/
namespace Go.Proofs.YtaddhpeainliiaaGreatDoor.Id
open Go

def hasTok (k : Tok) : List (Nat × V) → Bool
  | [] => false
  | (_, .own t _ _) :: r => eqTok t k || hasTok k r
  | _ :: r => hasTok k r
def hasTokV (k : Tok) : List V → Bool
  | [] => false
  | .own t _ _ :: r => eqTok t k || hasTokV k r
  | _ :: r => hasTokV k r
def hasTokB (k : Tok) : List (Nat × List V) → Bool
  | [] => false
  | (_, cs) :: r => hasTokV k cs || hasTokB k r
/-- a value that says less: a nil slice is an empty one that none else holds -/
def WkV (σ : St) (v u : V) : Prop := v = u ∨ v = .undef ∨ ∃ k n m, v = .own k n [] ∧ u = .d (.nil m) ∧ hasTok k σ.t = false ∧ hasTokB k σ.b = false
def WkVs (σ : St) : List V → List V → Prop
  | [], [] => True
  | v :: r, u :: s => WkV σ v u ∧ WkVs σ r s
  | _, _ => False
def WkT (σ : St) : List (Nat × V) → Prop
  | [] => True
  | (i, v) :: r => WkV σ v (getT σ.t i) ∧ WkT σ r
def WkB (σ : St) : List (Nat × List V) → Prop
  | [] => True
  | (i, cs) :: r => (∃ us, getB σ.b i = some us ∧ WkVs σ cs us) ∧ WkB σ r
def Wk (σ' σ : St) : Prop := WkT σ σ'.t ∧ WkB σ σ'.b

/-- contracts that are given -/
abbrev Given := FuncId → List V → List (List V) → Out → Prop
section
variable (P : Program) (tt : TT) (X : Given)
inductive DenN : Nat → (α : Type) → T α → α → Prop where
  | leaf {n : Nat} {α : Type} (a : α) : DenN n α (.leaf a) a
  | iteT {n : Nat} {α : Type} {b : Bool} {x y : T α} {a : α} : b = true → DenN n α x a → DenN n α (.ite b x y) a
  | iteF {n : Nat} {α : Type} {b : Bool} {x y : T α} {a : α} : b = false → DenN n α y a → DenN n α (.ite b x y) a
  | asrt {n : Nat} {α : Type} {p : Prop} {x : T α} {a : α} : p → DenN n α x a → DenN n α (.asrt p x) a
  | idx {n : Nat} {α : Type} {es : List (List D)} {j : Int} {k : List D → T α} {a : α} {e : List D} : 0 ≤ j → es[j.toNat]? = some e → DenN n α (k e) a → DenN n α (.idx es j k) a
  | bytes {n : Nat} {α : Type} {es : List (List D)} {k : ByteArray → T α} {a : α} {bs : List UInt8} : es = bs.map byteD → DenN n α (k ⟨bs.toArray⟩) a → DenN n α (.bytes es k) a
  | call {n : Nat} {α : Type} {G : Option (List Nat)} {f : FuncId} {args : List V} {bx : List (List V)} {k : Out → T α} {a : α} {fn : Func} {o : Out} :
      P.funcs[f]? = some fn → (fn.name == "runtime.NumGoroutine") = false → DenN n Out (evBody tt G fn args bx) o → DenN n α (k o) a → DenN (n + 1) α (.call f args bx k) a
  | ext {n : Nat} {α : Type} {f : FuncId} {args : List V} {bx : List (List V)} {k : Out → T α} {a : α} {o : Out} : X f args bx o → DenN n α (k o) a → DenN n α (.call f args bx k) a
  | loopN {n : Nat} {α : Type} {G : Option (List Nat)} {c : Code} {σ σ' σ2 : St} {k : Ex → St → T α} {a : α} : Wk σ' σ → DenN n (Ex × St) (evCode tt G c σ'.t σ'.b) (.normal, σ2) → DenN n α (.loop c σ2 k) a → DenN (n + 1) α (.loop c σ k) a
  | loopX {n : Nat} {α : Type} {G : Option (List Nat)} {c : Code} {σ σ' σ2 σ3 : St} {k : Ex → St → T α} {a : α} {e : Ex} : e ≠ .normal → Wk σ' σ → DenN n (Ex × St) (evCode tt G c σ'.t σ'.b) (e, σ2) → (σ3 = σ2 ∨ (∀ v, e ≠ .pan v) ∧ Wk σ3 σ2) → DenN n α (k e σ3) a → DenN (n + 1) α (.loop c σ k) a
end
section
variable {P : Program} {tt : TT} {X : Given}
theorem DenN.up {n : Nat} {α : Type} {t : T α} {a : α} (h : DenN P tt X n α t a) : ∀ m, n ≤ m → DenN P tt X m α t a := by
  induction h with
  | leaf a => exact fun m _ => .leaf a
  | iteT h _ ih => exact fun m hm => .iteT h (ih m hm)
  | iteF h _ ih => exact fun m hm => .iteF h (ih m hm)
  | asrt h _ ih => exact fun m hm => .asrt h (ih m hm)
  | idx h1 h2 _ ih => exact fun m hm => .idx h1 h2 (ih m hm)
  | bytes h _ ih => exact fun m hm => .bytes h (ih m hm)
  | call h1 h2 _ _ ih1 ih2 => exact fun m hm => by obtain ⟨m, rfl⟩ : ∃ q, m = q + 1 := ⟨m - 1, by omega⟩; exact .call h1 h2 (ih1 m (by omega)) (ih2 m (by omega))
  | ext h _ ih => exact fun m hm => .ext h (ih m hm)
  | loopN h1 _ _ ih1 ih2 => exact fun m hm => by obtain ⟨m, rfl⟩ : ∃ q, m = q + 1 := ⟨m - 1, by omega⟩; exact .loopN h1 (ih1 m (by omega)) (ih2 m (by omega))
  | loopX h0 h1 _ h3 _ ih1 ih2 => exact fun m hm => by obtain ⟨m, rfl⟩ : ∃ q, m = q + 1 := ⟨m - 1, by omega⟩; exact .loopX h0 h1 (ih1 m (by omega)) h3 (ih2 m (by omega))
end
section
variable (P : Program) (tt : TT) (X : Given)
/-- the tree comes to this -/
def Den {α : Type} (t : T α) (a : α) : Prop := ∃ n, DenN P tt X n α t a
end
section
variable {P : Program} {tt : TT} {X : Given} {α : Type}
theorem Den.leaf (a : α) : Den P tt X (.leaf a) a := ⟨0, .leaf a⟩
theorem Den.leaf' {a b : α} (h : a = b) : Den P tt X (.leaf a) b := h ▸ .leaf a
theorem Den.iteT {b : Bool} {x y : T α} {a : α} (h : b = true) (k : Den P tt X x a) : Den P tt X (.ite b x y) a := let ⟨n, k⟩ := k; ⟨n, .iteT h k⟩
theorem Den.iteF {b : Bool} {x y : T α} {a : α} (h : b = false) (k : Den P tt X y a) : Den P tt X (.ite b x y) a := let ⟨n, k⟩ := k; ⟨n, .iteF h k⟩
theorem Den.ite {b : Bool} {x y : T α} {a : α} (h1 : b = true → Den P tt X x a) (h2 : b = false → Den P tt X y a) : Den P tt X (.ite b x y) a := by
  cases b
  · exact .iteF rfl (h2 rfl)
  · exact .iteT rfl (h1 rfl)
/-- a test that is told as a proposition -/
theorem Den.dec {p : Prop} [Decidable p] {x y : T α} {a : α} (h1 : p → Den P tt X x a) (h2 : ¬ p → Den P tt X y a) : Den P tt X (.ite (decide p) x y) a :=
  .ite (fun h => h1 (of_decide_eq_true h)) (fun h => h2 (of_decide_eq_false h))
theorem Den.asrt {p : Prop} {x : T α} {a : α} (h : p) (k : Den P tt X x a) : Den P tt X (.asrt p x) a := let ⟨n, k⟩ := k; ⟨n, .asrt h k⟩
theorem Den.idx {es : List (List D)} {j : Int} {f : List D → T α} {a : α} (e : List D) (h0 : 0 ≤ j) (h : es[j.toNat]? = some e) (k : Den P tt X (f e) a) : Den P tt X (.idx es j f) a := let ⟨n, k⟩ := k; ⟨n, .idx h0 h k⟩
theorem Den.bytes {es : List (List D)} {f : ByteArray → T α} {a : α} (bs : List UInt8) (h : es = bs.map byteD) (k : Den P tt X (f ⟨bs.toArray⟩) a) : Den P tt X (.bytes es f) a := let ⟨n, k⟩ := k; ⟨n, .bytes h k⟩
theorem Den.ext {f : FuncId} {args : List V} {bx : List (List V)} {g : Out → T α} {a : α} (o : Out) (h : X f args bx o) (k : Den P tt X (g o) a) : Den P tt X (.call f args bx g) a := let ⟨n, k⟩ := k; ⟨n, .ext h k⟩
theorem Den.enter {G : Option (List Nat)} {f : FuncId} {args : List V} {bx : List (List V)} {g : Out → T α} {a : α} {fn : Func} (o : Out) (hf : P.funcs[f]? = some fn) (hn : (fn.name == "runtime.NumGoroutine") = false)
    (h : Den P tt X (evBody tt G fn args bx) o) (k : Den P tt X (g o) a) : Den P tt X (.call f args bx g) a :=
  let ⟨n, h⟩ := h; let ⟨m, k⟩ := k; ⟨max n m + 1, .call hf hn (h.up _ (Nat.le_max_left _ _)) (k.up _ (Nat.le_max_right _ _))⟩
theorem Den.loopN {G : Option (List Nat)} {c : Code} {σ σ2 : St} {k : Ex → St → T α} {a : α} (σ' : St) (w : Wk σ' σ) (h : Den P tt X (evCode tt G c σ'.t σ'.b) (.normal, σ2)) (g : Den P tt X (.loop c σ2 k) a) : Den P tt X (.loop c σ k) a :=
  let ⟨n, h⟩ := h; let ⟨m, g⟩ := g; ⟨max n m + 1, .loopN w (h.up _ (Nat.le_max_left _ _)) (g.up _ (Nat.le_max_right _ _))⟩
theorem Den.loopX {G : Option (List Nat)} {c : Code} {σ σ2 : St} {k : Ex → St → T α} {a : α} {e : Ex} (σ' : St) (he : e ≠ .normal) (w : Wk σ' σ) (h : Den P tt X (evCode tt G c σ'.t σ'.b) (e, σ2)) (g : Den P tt X (k e σ2) a) : Den P tt X (.loop c σ k) a :=
  let ⟨n, h⟩ := h; let ⟨m, g⟩ := g; ⟨max n m + 1, .loopX he w (h.up _ (Nat.le_max_left _ _)) (.inl rfl) (g.up _ (Nat.le_max_right _ _))⟩
/-- the loop is left, and less is said behind it -/
theorem Den.loopW {G : Option (List Nat)} {c : Code} {σ σ2 : St} {k : Ex → St → T α} {a : α} {e : Ex} (σ' σ3 : St) (he : e ≠ .normal) (hp : ∀ v, e ≠ .pan v) (w : Wk σ' σ) (h : Den P tt X (evCode tt G c σ'.t σ'.b) (e, σ2)) (w3 : Wk σ3 σ2) (g : Den P tt X (k e σ3) a) : Den P tt X (.loop c σ k) a :=
  let ⟨n, h⟩ := h; let ⟨m, g⟩ := g; ⟨max n m + 1, .loopX he w (h.up _ (Nat.le_max_left _ _)) (.inr ⟨hp, w3⟩) (g.up _ (Nat.le_max_right _ _))⟩
theorem DenN.bind {n m : Nat} {β : Type} {t : T α} {f : α → T β} {a : α} {b : β} (h : DenN P tt X n α t a) (hn : n ≤ m) (k : DenN P tt X m β (f a) b) : DenN P tt X (n + m) β (t.bind f) b := by
  induction h with
  | leaf a => exact k.up _ (by omega)
  | iteT h _ ih => exact .iteT h (ih hn k)
  | iteF h _ ih => exact .iteF h (ih hn k)
  | asrt h _ ih => exact .asrt h (ih hn k)
  | idx h1 h2 _ ih => exact .idx h1 h2 (ih hn k)
  | bytes h _ ih => exact .bytes h (ih hn k)
  | @call n α G f args bx g a fn o h1 h2 h3 _ _ ih2 =>
    rw [show n + 1 + m = (n + m) + 1 by omega]
    exact .call h1 h2 (h3.up _ (by omega)) (ih2 (by omega) k)
  | ext h _ ih => exact .ext h (ih hn k)
  | @loopN n α G c σ σ' σ2 g a h1 h2 _ _ ih2 =>
    rw [show n + 1 + m = (n + m) + 1 by omega]
    exact .loopN h1 (h2.up _ (by omega)) (ih2 (by omega) k)
  | @loopX n α G c σ σ' σ2 σ3 g a e h0 h1 h2 h3 _ _ ih2 =>
    rw [show n + 1 + m = (n + m) + 1 by omega]
    exact .loopX h0 h1 (h2.up _ (by omega)) h3 (ih2 (by omega) k)
theorem Den.bind {β : Type} {t : T α} {f : α → T β} {a : α} {b : β} (h : Den P tt X t a) (k : Den P tt X (f a) b) : Den P tt X (t.bind f) b :=
  let ⟨n, h⟩ := h; let ⟨m, k⟩ := k; ⟨n + max n m, h.bind (Nat.le_max_left _ _) (k.up _ (Nat.le_max_right _ _))⟩
/-- what a bound tree comes to, taken apart -/
theorem DenN.unbind {n : Nat} {β : Type} {t : T α} {f : α → T β} {b : β} (h : DenN P tt X n β (t.bind f) b) : ∃ a, DenN P tt X n α t a ∧ DenN P tt X n β (f a) b := by
  generalize ht : t.bind f = u at h
  induction h generalizing t with
  | leaf a => 
    cases t <;> simp only [T.bind_leaf, T.bind_fail, T.bind_ite, T.bind_asrt, T.bind_idx, T.bind_bytes, T.bind_call, T.bind_loop] at ht <;> try (cases ht; done)
    exact ⟨_, .leaf _, ht ▸ .leaf _⟩
  | iteT h hk ih =>
    cases t <;> simp only [T.bind_leaf, T.bind_fail, T.bind_ite, T.bind_asrt, T.bind_idx, T.bind_bytes, T.bind_call, T.bind_loop] at ht <;> try (cases ht; done)
    · exact ⟨_, .leaf _, ht ▸ .iteT h hk⟩
    · cases ht; obtain ⟨a, h1, h2⟩ := ih rfl; exact ⟨a, .iteT h h1, h2⟩
  | iteF h hk ih =>
    cases t <;> simp only [T.bind_leaf, T.bind_fail, T.bind_ite, T.bind_asrt, T.bind_idx, T.bind_bytes, T.bind_call, T.bind_loop] at ht <;> try (cases ht; done)
    · exact ⟨_, .leaf _, ht ▸ .iteF h hk⟩
    · cases ht; obtain ⟨a, h1, h2⟩ := ih rfl; exact ⟨a, .iteF h h1, h2⟩
  | asrt h hk ih =>
    cases t <;> simp only [T.bind_leaf, T.bind_fail, T.bind_ite, T.bind_asrt, T.bind_idx, T.bind_bytes, T.bind_call, T.bind_loop] at ht <;> try (cases ht; done)
    · exact ⟨_, .leaf _, ht ▸ .asrt h hk⟩
    · cases ht; obtain ⟨a, h1, h2⟩ := ih rfl; exact ⟨a, .asrt h h1, h2⟩
  | idx h0 h hk ih =>
    cases t <;> simp only [T.bind_leaf, T.bind_fail, T.bind_ite, T.bind_asrt, T.bind_idx, T.bind_bytes, T.bind_call, T.bind_loop] at ht <;> try (cases ht; done)
    · exact ⟨_, .leaf _, ht ▸ .idx h0 h hk⟩
    · cases ht; obtain ⟨a, h1, h2⟩ := ih rfl; exact ⟨a, .idx h0 h h1, h2⟩
  | bytes h hk ih =>
    cases t <;> simp only [T.bind_leaf, T.bind_fail, T.bind_ite, T.bind_asrt, T.bind_idx, T.bind_bytes, T.bind_call, T.bind_loop] at ht <;> try (cases ht; done)
    · exact ⟨_, .leaf _, ht ▸ .bytes h hk⟩
    · cases ht; obtain ⟨a, h1, h2⟩ := ih rfl; exact ⟨a, .bytes h h1, h2⟩
  | call h1 h2 h3 hk ih1 ih2 =>
    cases t <;> simp only [T.bind_leaf, T.bind_fail, T.bind_ite, T.bind_asrt, T.bind_idx, T.bind_bytes, T.bind_call, T.bind_loop] at ht <;> try (cases ht; done)
    · exact ⟨_, .leaf _, ht ▸ .call h1 h2 h3 hk⟩
    · cases ht; obtain ⟨a, g1, g2⟩ := ih2 rfl; exact ⟨a, .call h1 h2 h3 g1, g2.up _ (by omega)⟩
  | ext h hk ih =>
    cases t <;> simp only [T.bind_leaf, T.bind_fail, T.bind_ite, T.bind_asrt, T.bind_idx, T.bind_bytes, T.bind_call, T.bind_loop] at ht <;> try (cases ht; done)
    · exact ⟨_, .leaf _, ht ▸ .ext h hk⟩
    · cases ht; obtain ⟨a, h1, h2⟩ := ih rfl; exact ⟨a, .ext h h1, h2⟩
  | loopN h1 h2 hk ih1 ih2 =>
    cases t <;> simp only [T.bind_leaf, T.bind_fail, T.bind_ite, T.bind_asrt, T.bind_idx, T.bind_bytes, T.bind_call, T.bind_loop] at ht <;> try (cases ht; done)
    · exact ⟨_, .leaf _, ht ▸ .loopN h1 h2 hk⟩
    · cases ht; obtain ⟨a, g1, g2⟩ := ih2 (t := .loop _ _ _) rfl; exact ⟨a, .loopN h1 h2 g1, g2.up _ (by omega)⟩
  | loopX h0 h1 h2 h3 hk ih1 ih2 =>
    cases t <;> simp only [T.bind_leaf, T.bind_fail, T.bind_ite, T.bind_asrt, T.bind_idx, T.bind_bytes, T.bind_call, T.bind_loop] at ht <;> try (cases ht; done)
    · exact ⟨_, .leaf _, ht ▸ .loopX h0 h1 h2 h3 hk⟩
    · cases ht; obtain ⟨a, g1, g2⟩ := ih2 rfl; exact ⟨a, .loopX h0 h1 h2 h3 g1, g2.up _ (by omega)⟩
end
end Go.Proofs.YtaddhpeainliiaaGreatDoor.Id
/-! ## IdealC -/
namespace Go.Proofs.YtaddhpeainliiaaGreatDoor.Id
open Go
set_option linter.unusedVariables false
set_option linter.unusedSimpArgs false

/-- cells that never turn again -/
abbrev H := Nat → Nat → Option Value
inductive RepD (h : H) : Value → D → Prop where
  | bool (b : Bool) : RepD h (.bool b) (.bool b)
  | int (k : IntKind) (n : Int) : RepD h (.int k n) (.int k n)
  | str (s : ByteArray) : RepD h (.string s) (.str s)
  | nil (n : Nat) : RepD h (.slice none 0 0) (.nil n)
  | sl0 (n : Nat) : RepD h (.slice none 0 0) (.sl n [])
  | sl (a : Addr) (cap n : Nat) (es : List (List D)) (vs : Nat → Nat → Value) (ha : es ≠ [] → a.spot = none) (hc : es.length ≤ cap)
      (hn : ∀ (j : Nat) e, es[j]? = some e → e.length = n) (hh : ∀ (j : Nat) e (i : Nat) x, es[j]? = some e → e[i]? = some x → h a.block (a.off + (j * n + i)) = some (vs j i))
      (hr : ∀ (j : Nat) e (i : Nat) x, es[j]? = some e → e[i]? = some x → RepD h (vs j i) x) : RepD h (.slice (some a) es.length cap) (.sl n es)
theorem RepD.mono {h h' : H} (hh : ∀ b o v, h b o = some v → h' b o = some v) {v : Value} {d : D} (r : RepD h v d) : RepD h' v d := by
  induction r with
  | bool b => exact .bool b
  | int k n => exact .int k n
  | str s => exact .str s
  | nil n => exact .nil n
  | sl0 n => exact .sl0 n
  | sl a cap n es vs ha hc hn h1 _ ih => exact .sl a cap n es vs ha hc hn (fun j e i x h2 h3 => hh _ _ _ (h1 j e i x h2 h3)) ih
def RepDs (h : H) : List D → List Value → Prop
  | [], l => l = []
  | x :: r, l => ∃ v vs, l = v :: vs ∧ RepD h v x ∧ RepDs h r vs
/-- cells from a place on -/
def RepAt (h : H) (b : Nat) : Nat → List D → Prop
  | _, [] => True
  | o, x :: r => (∃ v, h b o = some v ∧ RepD h v x) ∧ RepAt h b (o + 1) r
structure Aux where
  h : H
  ρ : Nat → Nat
  z : Tok → Option (Nat × Nat × Nat)
  /-- blocks that are rows of bytes -/
  u : Nat → Prop
/-- a byte first -/
def hd8 (es : List (List D)) : Prop := ∃ c r, es = [.int .u8 c] :: r
mutual
def RepN (x : Aux) : V → Value → Prop
  | .undef, _ => True
  | .skip, v => v = Go.undef
  | .nilp, v => v = .pointer none
  | .lit b, v => v = .bool b
  | .d d, v => RepD x.h v d
  | .agg ds, v => ∃ cs : Array Value, v = .agg cs ∧ RepDs x.h ds cs.toList
  | .own _ n es, v => RepD x.h v (.sl n es)
  | .box i off, v => v = .pointer (some ⟨x.ρ i, off, none⟩)
  | .ref ds, v => ∃ b off, v = .pointer (some ⟨b, off, none⟩) ∧ RepAt x.h b off ds
  | .fn f us ws, v => ∃ ags bs : Array Value, v = .func (.func f) ags bs ∧ RepNs x us ags.toList ∧ RepNs x ws bs.toList
  | .iface t u, v => ∃ w, v = .iface t w ∧ RepN x u w
  | .tuple us, v => ∃ vs : Array Value, v = .tuple vs ∧ RepNs x us vs.toList
def RepNs (x : Aux) : List V → List Value → Prop
  | [], l => l = []
  | u :: r, l => ∃ v vs, l = v :: vs ∧ RepN x u v ∧ RepNs x r vs
end
/-- a slice that is owned: behind its end there is room that none else sees -/
def RepOwn (x : Aux) (t : Tok) (n : Nat) (es : List (List D)) (v : Value) : Prop :=
  (v = .slice none 0 0 ∧ es = [] ∧ x.z t = none) ∨
  ∃ b cap, v = .slice (some ⟨b, 0, none⟩) es.length cap ∧ x.z t = some (b, es.length * n, cap * n) ∧ RepD x.h v (.sl n es) ∧ (hd8 es → x.u b) ∧ (es = [] → cap = 0)
def RepV (x : Aux) : V → Value → Prop
  | .own t n es, v => RepOwn x t n es v
  | u, v => RepN x u v
def RepVs (x : Aux) : List V → List Value → Prop
  | [], l => l = []
  | u :: r, l => ∃ v vs, l = v :: vs ∧ RepV x u v ∧ RepVs x r vs
theorem RepOwn.repD {x : Aux} {t : Tok} {n : Nat} {es : List (List D)} {v : Value} (r : RepOwn x t n es v) : RepD x.h v (.sl n es) := by
  rcases r with ⟨rfl, rfl, _⟩ | ⟨b, cap, rfl, _, h⟩
  · exact .sl0 n
  · exact h.1
theorem RepV.toN {x : Aux} {u : V} {v : Value} (r : RepV x u v) : RepN x u v := by
  cases u <;> first | exact r | exact (show RepN x (.own _ _ _) v from RepOwn.repD r)
theorem RepN.toV {x : Aux} {u : V} {v : Value} (r : RepN x u v) (h : ∀ t n es, u ≠ .own t n es) : RepV x u v := by
  cases u <;> first | exact r | exact absurd rfl (h _ _ _)
theorem RepDs.mono {h h' : H} (hh : ∀ b o v, h b o = some v → h' b o = some v) : ∀ {ds : List D} {l : List Value}, RepDs h ds l → RepDs h' ds l
  | [], _, r => r
  | _ :: _, _, ⟨v, vs, e, r, q⟩ => ⟨v, vs, e, r.mono hh, q.mono hh⟩
theorem RepAt.mono {h h' : H} (hh : ∀ b o v, h b o = some v → h' b o = some v) {b : Nat} : ∀ {ds : List D} {o : Nat}, RepAt h b o ds → RepAt h' b o ds
  | [], _, _ => trivial
  | _ :: _, _, ⟨⟨v, e, r⟩, q⟩ => ⟨⟨v, hh _ _ _ e, r.mono hh⟩, q.mono hh⟩
mutual
theorem RepN.mono {x x' : Aux} (hh : ∀ b o v, x.h b o = some v → x'.h b o = some v) : ∀ (u : V) (v : Value), (∀ i, hasBox i u = true → x'.ρ i = x.ρ i) → RepN x u v → RepN x' u v
  | .undef, _, _, _ => trivial
  | .skip, _, _, r => r
  | .nilp, _, _, r => r
  | .lit _, _, _, r => r
  | .d _, _, _, r => RepD.mono hh r
  | .agg _, _, _, ⟨cs, e, r⟩ => ⟨cs, e, r.mono hh⟩
  | .own _ _ _, _, _, r => RepD.mono hh r
  | .box i off, _, hρ, r => by
    have := hρ i (by simp [hasBox])
    simp only [RepN] at r ⊢
    rw [this]; exact r
  | .ref _, _, _, ⟨b, o, e, r⟩ => ⟨b, o, e, r.mono hh⟩
  | .fn _ us ws, _, hρ, ⟨ags, bs, e, r, q⟩ => ⟨ags, bs, e, RepNs.mono hh us _ (fun i hi => hρ i (by simp [hasBox, hi])) r, RepNs.mono hh ws _ (fun i hi => hρ i (by simp [hasBox, hi])) q⟩
  | .iface _ u, _, hρ, ⟨w, e, r⟩ => ⟨w, e, RepN.mono hh u w (fun i hi => hρ i (by simpa [hasBox] using hi)) r⟩
  | .tuple us, _, hρ, ⟨vs, e, r⟩ => ⟨vs, e, RepNs.mono hh us _ (fun i hi => hρ i (by simpa [hasBox] using hi)) r⟩
theorem RepNs.mono {x x' : Aux} (hh : ∀ b o v, x.h b o = some v → x'.h b o = some v) : ∀ (us : List V) (l : List Value), (∀ i, hasBoxes i us = true → x'.ρ i = x.ρ i) → RepNs x us l → RepNs x' us l
  | [], _, _, r => r
  | u :: r, _, hρ, ⟨v, vs, e, p, q⟩ => ⟨v, vs, e, RepN.mono hh u v (fun i hi => hρ i (by simp [hasBoxes, hi])) p, RepNs.mono hh r vs (fun i hi => hρ i (by simp [hasBoxes, hi])) q⟩
end
theorem eqTok_iff {a b : Tok} : eqTok a b = true ↔ a = b := by
  obtain ⟨a1, a2⟩ := a; obtain ⟨b1, b2⟩ := b
  simp [eqTok, Nat.beq_eq]
theorem eqTok_false {a b : Tok} : eqTok a b = false ↔ a ≠ b := by
  rw [← Bool.not_eq_true, eqTok_iff]
theorem scrubVs_own (ks : List Tok) (t : Tok) (n : Nat) (es : List (List D)) : (scrubVs ks (.own t n es) = .own t n es ∧ t ∉ ks) ∨ scrubVs ks (.own t n es) = .d (.sl n es) := by
  induction ks with
  | nil => exact .inl ⟨rfl, by simp⟩
  | cons k r ih =>
    have e : scrubVs (k :: r) (.own t n es) = scrubVs r (scrubV k (.own t n es)) := rfl
    rw [e]
    cases h : eqTok t k with
    | true =>
      simp only [scrubV, h]
      have : ∀ r : List Tok, scrubVs r (.d (.sl n es)) = .d (.sl n es) := fun r => by induction r with | nil => rfl | cons _ _ ih => exact ih
      exact .inr (this r)
    | false =>
      simp only [scrubV, h]
      rcases ih with ⟨h1, h2⟩ | h1
      · exact .inl ⟨h1, by simp [h2, eqTok_false.1 h]⟩
      · exact .inr h1
theorem scrubVs_ne (ks : List Tok) (u : V) (h : ∀ t n es, u ≠ .own t n es) : scrubVs ks u = u := by
  induction ks with
  | nil => rfl
  | cons k r ih =>
    have e : scrubV k u = u := by cases u <;> first | rfl | exact absurd rfl (h _ _ _)
    show scrubVs r (scrubV k u) = u
    rw [e]; exact ih
theorem dropVs_cases (l : List Nat) : ∀ u : V, (dropVs l u = u ∧ ∀ i ∈ l, hasBox i u = false) ∨ dropVs l u = .undef := by
  induction l with
  | nil => exact fun u => .inl ⟨rfl, by simp⟩
  | cons k r ih =>
    intro u
    show (dropVs r (dropV k u) = u ∧ _) ∨ dropVs r (dropV k u) = .undef
    cases h : hasBox k u with
    | true =>
      have e : dropV k u = .undef := by simp [dropV, h]
      rw [e]
      rcases ih .undef with h1 | h1
      · exact .inr h1.1
      · exact .inr h1
    | false =>
      have e : dropV k u = u := by simp [dropV, h]
      rw [e]
      rcases ih u with ⟨h1, h2⟩ | h1
      · exact .inl ⟨h1, by simpa [h] using h2⟩
      · exact .inr h1
/-- what is cleaned still stands for what it stood for, behind a change of what ends -/
theorem RepV.clean {x x' : Aux} {scr : List Tok} {drp : List Nat} (hh : ∀ b o v, x.h b o = some v → x'.h b o = some v) (hρ : ∀ i, i ∉ drp → x'.ρ i = x.ρ i) (hz : ∀ t, t ∉ scr → x'.z t = x.z t) (hu : ∀ k, x.u k → x'.u k)
    {u : V} {v : Value} (r : RepV x u v) : RepV x' (cleanV scr drp u) v := by
  unfold cleanV
  rcases dropVs_cases drp (scrubVs scr u) with ⟨h1, h2⟩ | h1
  · rw [h1]
    by_cases ho : ∃ t n es, u = .own t n es
    · obtain ⟨t, n, es, rfl⟩ := ho
      rcases scrubVs_own scr t n es with ⟨e, ht⟩ | e
      · rw [e]
        have r' : RepOwn x t n es v := r
        show RepOwn x' t n es v
        rcases r' with ⟨rfl, rfl, h3⟩ | ⟨b, cap, rfl, h3, h4, h5, h6⟩
        · exact .inl ⟨rfl, rfl, by rw [hz t ht]; exact h3⟩
        · exact .inr ⟨b, cap, rfl, by rw [hz t ht]; exact h3, h4.mono hh, fun h => hu _ (h5 h), h6⟩
      · rw [e]
        exact RepD.mono hh (RepOwn.repD r)
    · have hn : ∀ t n es, u ≠ .own t n es := fun t n es e => ho ⟨t, n, es, e⟩
      rw [scrubVs_ne scr u hn] at h2 ⊢
      refine RepN.toV (RepN.mono hh u v (fun i hi => hρ i (fun hm => ?_)) r.toN) hn
      rw [h2 i hm] at hi; cases hi
  · rw [h1]; trivial
theorem RepVs.clean {x x' : Aux} {scr : List Tok} {drp : List Nat} (hh : ∀ b o v, x.h b o = some v → x'.h b o = some v) (hρ : ∀ i, i ∉ drp → x'.ρ i = x.ρ i) (hz : ∀ t, t ∉ scr → x'.z t = x.z t) (hu : ∀ k, x.u k → x'.u k) :
    ∀ {us : List V} {l : List Value}, RepVs x us l → RepVs x' (cleanVs scr drp us) l
  | [], _, r => r
  | _ :: _, _, ⟨v, vs, e, p, q⟩ => ⟨v, vs, e, p.clean hh hρ hz hu, q.clean hh hρ hz hu⟩
theorem cleanV_nil (u : V) : cleanV [] [] u = u := rfl
theorem cleanVs_nil : ∀ us : List V, cleanVs [] [] us = us
  | [] => rfl
  | u :: r => by rw [cleanVs, cleanVs_nil r]; rfl
theorem RepV.grow {x x' : Aux} (hh : ∀ b o v, x.h b o = some v → x'.h b o = some v) (hρ : x'.ρ = x.ρ) (hz : x'.z = x.z) (hu : ∀ k, x.u k → x'.u k) {u : V} {v : Value} (r : RepV x u v) : RepV x' u v := by
  have := RepV.clean (scr := []) (drp := []) hh (fun i _ => by rw [hρ]) (fun t _ => by rw [hz]) hu r
  rwa [cleanV_nil] at this
theorem RepVs.grow {x x' : Aux} (hh : ∀ b o v, x.h b o = some v → x'.h b o = some v) (hρ : x'.ρ = x.ρ) (hz : x'.z = x.z) (hu : ∀ k, x.u k → x'.u k) {us : List V} {l : List Value} (r : RepVs x us l) : RepVs x' us l := by
  have := RepVs.clean (scr := []) (drp := []) hh (fun i _ => by rw [hρ]) (fun t _ => by rw [hz]) hu r
  rwa [cleanVs_nil] at this

/-! ### force is the identity -/
theorem forceD_eq {α : Type} (x : D) (f : D → α) : forceD x f = f x := by cases x <;> rfl
theorem forceDs_eq {α : Type} : ∀ (xs : List D) (f : List D → α), forceDs xs f = f xs
  | [], _ => rfl
  | x :: r, f => by rw [forceDs, forceD_eq, forceDs_eq r]
theorem forceV0_eq {α : Type} (v : V) (f : V → α) : forceV0 v f = f v := by
  cases v <;> first | rfl | exact forceD_eq _ _ | exact forceDs_eq _ _ | (rename_i b; cases b <;> rfl)
theorem forceVs_eq {α : Type} : ∀ (xs : List V) (f : List V → α), forceVs xs f = f xs
  | [], _ => rfl
  | x :: r, f => by rw [forceVs, forceV0_eq, forceVs_eq r]
theorem forceV_eq {α : Type} (v : V) (f : V → α) : forceV v f = f v := by
  unfold forceV
  split <;> simp only [forceVs_eq, forceV0_eq]
theorem forceBs_eq {α : Type} : ∀ (xs : List (List V)) (f : List (List V) → α), forceBs xs f = f xs
  | [], _ => rfl
  | x :: r, f => by rw [forceBs, forceVs_eq, forceBs_eq r]
theorem forceT_eq {α : Type} : ∀ (xs : Tmps) (f : Tmps → α), forceT xs f = f xs
  | [], _ => rfl
  | (i, x) :: r, f => by rw [forceT, forceV_eq, forceT_eq r]
theorem forceB_eq {α : Type} : ∀ (xs : Boxes) (f : Boxes → α), forceB xs f = f xs
  | [], _ => rfl
  | (i, x) :: r, f => by rw [forceB, forceVs_eq, forceB_eq r]
theorem forceNs_eq {α : Type} : ∀ (xs : List Nat) (f : List Nat → α), forceNs xs f = f xs
  | [], _ => rfl
  | x :: r, f => by rw [forceNs, forceNs_eq r]
theorem getT_clean (scr : List Tok) (drp : List Nat) : ∀ (t : Tmps) (i : Nat), getT (cleanT scr drp t) i = cleanV scr drp (getT t i)
  | [], i => by
    have : ∀ l : List Nat, dropVs l .undef = .undef := fun l => by rcases dropVs_cases l .undef with h | h; exact h.1; exact h
    show V.undef = cleanV scr drp .undef
    unfold cleanV
    rw [scrubVs_ne scr .undef (by simp), this]
  | (j, v) :: r, i => by
    simp only [cleanT, getT]
    cases Nat.beq j i
    · exact getT_clean scr drp r i
    · rfl
theorem getB_clean (scr : List Tok) (drp : List Nat) : ∀ (b : Boxes) (i : Nat), getB (cleanB scr drp b) i = (getB b i).map (cleanVs scr drp)
  | [], i => rfl
  | (j, v) :: r, i => by
    simp only [cleanB, getB]
    cases Nat.beq j i
    · exact getB_clean scr drp r i
    · rfl
theorem getB_cat (wr b : Boxes) (i : Nat) : getB (catB wr b) i = match getB wr i with | some cs => some cs | none => getB b i := by
  induction wr with
  | nil => rfl
  | cons p r ih =>
    obtain ⟨j, v⟩ := p
    simp only [catB, getB]
    cases Nat.beq j i
    · exact ih
    · rfl
theorem getT_put (d : Nat) (v : V) (t : Tmps) (i : Nat) : getT ((d, v) :: t) i = if d = i then v else getT t i := by
  simp only [getT]
  by_cases h : d = i
  · rw [if_pos h, (Nat.beq_eq ▸ h : Nat.beq d i = true)]
  · rw [if_neg h]
    have : Nat.beq d i = false := by rw [← Bool.not_eq_true]; exact fun e => h (Nat.eq_of_beq_eq_true e)
    rw [this]
theorem anyBoxT_get {d : Nat} : ∀ {t : Tmps}, anyBoxT d t = false → ∀ i, hasBox d (getT t i) = false
  | [], _, i => rfl
  | (j, v) :: r, h, i => by
    simp only [anyBoxT] at h
    cases hv : hasBox d v with
    | true => rw [hv] at h; cases h
    | false =>
      rw [hv] at h
      simp only [getT]
      cases Nat.beq j i
      · exact anyBoxT_get h i
      · exact hv
theorem anyBoxB_get {d : Nat} : ∀ {b : Boxes}, anyBoxB d b = false → ∀ i cs, getB b i = some cs → hasBoxes d cs = false
  | [], _, i, cs, h => by cases h
  | (j, v) :: r, h, i, cs, hc => by
    simp only [anyBoxB] at h
    cases hv : hasBoxes d v with
    | true => rw [hv] at h; cases h
    | false =>
      rw [hv] at h
      simp only [getB] at hc
      cases hj : Nat.beq j i <;> rw [hj] at hc
      · exact anyBoxB_get h i cs hc
      · cases hc; exact hv
theorem clean_noBox {d : Nat} {v : V} (h : hasBox d v = false) : cleanV [] [d] v = v := by
  show dropV d v = v
  simp [dropV, h]
theorem cleanVs_noBox {d : Nat} : ∀ {vs : List V}, hasBoxes d vs = false → cleanVs [] [d] vs = vs
  | [], _ => rfl
  | v :: r, h => by
    simp only [hasBoxes, Bool.or_eq_false_iff] at h
    rw [cleanVs, clean_noBox h.1, cleanVs_noBox h.2]
theorem finE_eq {α : Type} (t : Tmps) (b : Boxes) (dst : Option Nat) (v : V) (wr : Boxes) (k : Tmps → Boxes → α) : finE t b dst v wr k = k (putT dst v t) (catB wr b) := by
  unfold finE
  rw [forceV_eq, forceB_eq]
  cases dst <;> rfl
theorem cleanE_eq {α : Type} (t : Tmps) (b : Boxes) (scr : List Tok) (drp : List Nat) (k : Tmps → Boxes → α) : cleanE t b scr drp k = k (cleanT scr drp t) (cleanB scr drp b) := by
  unfold cleanE
  rw [forceT_eq, forceB_eq]
theorem applyE_eq {α : Type} (t : Tmps) (b : Boxes) (dst : Option Nat) (e : Eff) (k : Tmps → Boxes → α) :
    ∃ t1 b1, applyE t b dst e k = k (putT dst e.v t1) (catB e.wr b1) ∧ (∀ i, getT t1 i = cleanV e.scr e.drp (getT t i)) ∧ ∀ i, getB b1 i = (getB b i).map (cleanVs e.scr e.drp) := by
  obtain ⟨ev, ewr, escr, edrp⟩ := e
  have full : ∀ scr drp, (cleanE t b scr drp fun t b => finE t b dst ev ewr k) = applyE t b dst ⟨ev, ewr, escr, edrp⟩ k → scr = escr → drp = edrp → ∃ t1 b1, applyE t b dst ⟨ev, ewr, escr, edrp⟩ k = k (putT dst ev t1) (catB ewr b1) ∧ (∀ i, getT t1 i = cleanV escr edrp (getT t i)) ∧ ∀ i, getB b1 i = (getB b i).map (cleanVs escr edrp) := by
    rintro _ _ h rfl rfl
    exact ⟨_, _, by rw [← h, cleanE_eq, finE_eq], getT_clean _ _ _, getB_clean _ _ _⟩
  cases escr with
  | nil =>
    cases edrp with
    | nil =>
      refine ⟨t, b, finE_eq .., fun i => (cleanV_nil _).symm, fun i => ?_⟩
      cases getB b i with
      | none => rfl
      | some cs => exact congrArg some (cleanVs_nil cs).symm
    | cons d r =>
      cases r with
      | nil =>
        cases h1 : anyBoxT d t with
        | true => exact full [] [d] (by simp [applyE, h1]) rfl rfl
        | false =>
          cases h2 : anyBoxB d b with
          | true => exact full [] [d] (by simp [applyE, h1, h2]) rfl rfl
          | false =>
            refine ⟨t, b, by simp [applyE, h1, h2, finE_eq], fun i => (clean_noBox (anyBoxT_get h1 i)).symm, fun i => ?_⟩
            cases hb : getB b i with
            | none => rfl
            | some cs => exact congrArg some (cleanVs_noBox (anyBoxB_get h2 i cs hb)).symm
      | cons _ _ => exact full _ _ rfl rfl rfl
  | cons _ _ => exact full _ _ rfl rfl rfl
end Go.Proofs.YtaddhpeainliiaaGreatDoor.Id
/-! ## IdealD -/
namespace Go.Proofs.YtaddhpeainliiaaGreatDoor.Id
open Go
set_option linter.unusedSectionVars false
set_option linter.unusedVariables false
set_option linter.unusedSimpArgs false

/-- a pointer stands first -/
def pw : List Value → Bool
  | .pointer _ :: _ => true
  | _ => false
section
variable (I : World → Prop) (B0 : Nat) (M : Nat → Prop)
/-- boxes are blocks of their own, owned slices end in room of their own; M: the blocks that may be written -/
structure WSim (x : Aux) (b : Boxes) (w : World) : Prop where
  inv : I w
  big : ∀ k, M k → B0 ≤ k
  top : ∀ k, w.heap.size ≤ k → M k
  agree : ∀ k o v, x.h k o = some v → w.cell? ⟨k, o, none⟩ = some v
  box : ∀ i cs, getB b i = some cs → M (x.ρ i) ∧ (∀ o, x.h (x.ρ i) o = none) ∧ ∃ ws t, w.heap[x.ρ i]? = some (.cells ws t (0, 0)) ∧ RepVs x cs ws.toList
  inj : ∀ i j cs ds, getB b i = some cs → getB b j = some ds → x.ρ i = x.ρ j → i = j
  zone : ∀ t k s e, x.z t = some (k, s, e) → M k ∧ s ≤ e ∧ (∀ o, s ≤ o → x.h k o = none) ∧ ∃ ws ty, w.heap[k]? = some (.cells ws ty (0, 0)) ∧ ws.size = e
  zinj : ∀ t t' k s e s' e', x.z t = some (k, s, e) → x.z t' = some (k, s', e') → t = t'
  zbox : ∀ t k s e i cs, x.z t = some (k, s, e) → getB b i = some cs → x.ρ i ≠ k
  uu : ∀ k, x.u k → ∃ ws f, w.heap[k]? = some (.cells ws u8t f)
  kt : ∀ i cs, getB b i = some cs → ∀ ws t f, w.heap[x.ρ i]? = some (.cells ws t f) → pw ws.toList = true → kn ws.size t = true
/-- the calls that are deferred while this runs -/
class Ds where
  l : List Deferred
  /-- no region of the code draws its order -/
  nd : Bool
structure Sim [Ds] (nt : Nat) (x : Aux) (t : Tmps) (b : Boxes) (a : Act) (w : World) : Prop where
  tm : ∀ i, RepV x (getT t i) (a.tmps.getD i undef)
  sz : a.tmps.size = nt
  df : a.defers = Ds.l
  ws : WSim I B0 M x b w
/-- what a stretch keeps -/
structure Ext (x : Aux) (w : World) (x' : Aux) (w' : World) : Prop where
  os : w'.os = w.os
  tape : w'.tape = w.tape
  output : w'.output = w.output
  size : w.heap.size ≤ w'.heap.size
  blk : ∀ k, ¬ M k → w'.heap[k]? = w.heap[k]?
  sub : ∀ k o v, x.h k o = some v → x'.h k o = some v
  out : ∀ k, ¬ M k → x'.h k = x.h k
  rho : ∀ i, base ≤ i → x'.ρ i = x.ρ i
  u : ∀ k, x.u k → x'.u k
/-- what is asked of the standing facts -/
def Stable : Prop := ∀ w w' : World, (∀ k, k < B0 → w'.heap[k]? = w.heap[k]?) → w.heap.size ≤ w'.heap.size → I w → I w'
end
section
variable {I : World → Prop} {B0 : Nat} {M : Nat → Prop}
variable [Ds]
theorem Ext.refl (x : Aux) (w : World) : Ext M x w x w := ⟨rfl, rfl, rfl, Nat.le_refl _, fun _ _ => rfl, fun _ _ _ h => h, fun _ _ => rfl, fun _ _ => rfl, fun _ h => h⟩
theorem Ext.trans {x y z : Aux} {u v w : World} (h : Ext M x u y v) (g : Ext M y v z w) : Ext M x u z w :=
  ⟨g.os.trans h.os, g.tape.trans h.tape, g.output.trans h.output, Nat.le_trans h.size g.size, fun k hk => (g.blk k hk).trans (h.blk k hk), fun k o v hv => g.sub k o v (h.sub k o v hv), fun k hk => (g.out k hk).trans (h.out k hk), fun i hi => (g.rho i hi).trans (h.rho i hi), fun k hk => g.u k (h.u k hk)⟩
theorem cell_of_block {w w' : World} {p : Addr} (h : w'.heap[p.block]? = w.heap[p.block]?) : w'.cell? p = w.cell? p := by
  unfold World.cell?; rw [h]
theorem cell_lt {w : World} {p : Addr} {v : Value} (h : w.cell? p = some v) : p.block < w.heap.size := by
  unfold World.cell? at h
  rcases Nat.lt_or_ge p.block w.heap.size with h1 | h1
  · exact h1
  · rw [Array.getElem?_eq_none h1] at h; cases h
theorem heap_lt {w : World} {k : Nat} {o : Obj} (h : w.heap[k]? = some o) : k < w.heap.size := (Array.getElem?_eq_some_iff.1 h).1
theorem WSim.keep {x : Aux} {b : Boxes} {w : World} (S : WSim I B0 M x b w) (hI : Stable I B0) {w' : World} {x' : Aux} (hw : ∀ k, ¬ M k → w'.heap[k]? = w.heap[k]?) (hs : w.heap.size ≤ w'.heap.size) : I w' :=
  hI w w' (fun k hk => hw k (fun hm => by have := S.big k hm; omega)) hs S.inv
/-- the same boxes, told in other words -/
theorem WSim.same {x : Aux} {b b1 : Boxes} {w : World} (S : WSim I B0 M x b w) (h : ∀ i, getB b1 i = getB b i) : WSim I B0 M x b1 w :=
  ⟨S.inv, S.big, S.top, S.agree, fun i cs hc => S.box i cs (by rw [← h]; exact hc), fun i j cs ds hc hd => S.inj i j cs ds (by rw [← h]; exact hc) (by rw [← h]; exact hd), S.zone, S.zinj, fun t k s e i cs hz hc => S.zbox t k s e i cs hz (by rw [← h]; exact hc), S.uu, fun i cs hc => S.kt i cs (by rw [← h]; exact hc)⟩
/-- a draw -/
theorem WSim.drew {x : Aux} {b : Boxes} {w w' : World} (S : WSim I B0 M x b w) (hI : Stable I B0) (h : w'.heap = w.heap) : WSim I B0 M x b w' :=
  ⟨hI w w' (fun k _ => by rw [h]) (by rw [h]; exact Nat.le_refl _) S.inv, S.big, fun k hk => S.top k (by rw [← h]; exact hk), fun k o v hv => by rw [cell_of_block (w := w) (by rw [h])]; exact S.agree k o v hv,
   fun i cs hc => by rw [h]; exact S.box i cs hc, S.inj, fun t k s e hz => by rw [h]; exact S.zone t k s e hz, S.zinj, S.zbox, fun k hk => by rw [h]; exact S.uu k hk, fun i cs hc => by rw [h]; exact S.kt i cs hc⟩
theorem Ext.drew {x : Aux} {w w' : World} (h : w'.heap = w.heap) (h1 : w'.os = w.os) (h2 : w'.tape = w.tape) (h3 : w'.output = w.output) : Ext M x w x w' :=
  ⟨h1, h2, h3, by rw [h]; exact Nat.le_refl _, fun k _ => by rw [h], fun _ _ _ h => h, fun _ _ => rfl, fun _ _ => rfl, fun _ h => h⟩
theorem push_lt {w : World} {o : Obj} {k : Nat} (h : k < w.heap.size) : (w.heap.push o)[k]? = w.heap[k]? := by rw [Array.getElem?_push, if_neg (by omega)]
theorem push_eq {w : World} {o : Obj} : (w.heap.push o)[w.heap.size]? = some o := by rw [Array.getElem?_push, if_pos rfl]
theorem WSim.lt {x : Aux} {b : Boxes} {w : World} (S : WSim I B0 M x b w) {i : Nat} {cs : List V} (h : getB b i = some cs) : x.ρ i < w.heap.size := by
  obtain ⟨_, _, ws, t, hw, _⟩ := S.box i cs h; exact heap_lt hw
theorem WSim.zlt {x : Aux} {b : Boxes} {w : World} (S : WSim I B0 M x b w) {t : Tok} {k s e : Nat} (h : x.z t = some (k, s, e)) : k < w.heap.size := by
  obtain ⟨_, _, _, ws, ty, hw, _⟩ := S.zone t k s e h; exact heap_lt hw
theorem WSim.h_none {x : Aux} {b : Boxes} {w : World} (S : WSim I B0 M x b w) {k : Nat} (h : w.heap.size ≤ k) (o : Nat) : x.h k o = none := by
  cases hv : x.h k o with
  | none => rfl
  | some v => have := cell_lt (S.agree k o v hv); exact absurd this (by simpa using h)
/-- a new block that is nobody's -/
theorem WSim.push {x : Aux} {b : Boxes} {w w' : World} (S : WSim I B0 M x b w) (hI : Stable I B0) {o : Obj} (h : w'.heap = w.heap.push o) : WSim I B0 M x b w' := by
  have hlt : ∀ k, k < w.heap.size → w'.heap[k]? = w.heap[k]? := fun k hk => by rw [h]; exact push_lt hk
  have hs : w.heap.size ≤ w'.heap.size := by rw [h]; simp
  refine ⟨hI w w' (fun k hk => ?_) hs S.inv, S.big, fun k hk => S.top k (by omega), fun k q v hv => ?_, fun i cs hc => ?_, S.inj, fun t k s e hz => ?_, S.zinj, S.zbox, fun k hk => (let ⟨ws, f, h1⟩ := S.uu k hk; ⟨ws, f, by rw [hlt _ (heap_lt h1)]; exact h1⟩), fun i cs hc => by rw [hlt _ (S.lt hc)]; exact S.kt i cs hc⟩
  · rcases Nat.lt_or_ge k w.heap.size with h1 | h1
    · exact hlt k h1
    · exact absurd (S.big k (S.top k h1)) (by have := S.big k (S.top k h1); omega)
  · have hc := S.agree k q v hv
    rw [cell_of_block (w := w) (hlt k (cell_lt hc))]; exact hc
  · rw [hlt _ (S.lt hc)]; exact S.box i cs hc
  · rw [hlt _ (S.zlt hz)]; exact S.zone t k s e hz
theorem Ext.push {x : Aux} {b : Boxes} {w w' : World} (S : WSim I B0 M x b w) {o : Obj} (h : w'.heap = w.heap.push o) (h1 : w'.os = w.os) (h2 : w'.tape = w.tape) (h3 : w'.output = w.output) : Ext M x w x w' :=
  ⟨h1, h2, h3, by rw [h]; simp, fun k hk => by
    rcases Nat.lt_or_ge k w.heap.size with g | g
    · rw [h]; exact push_lt g
    · exact absurd (S.top k g) hk, fun _ _ _ h => h, fun _ _ => rfl, fun _ _ => rfl, fun _ h => h⟩
theorem getB_old {wr b b1 : Boxes} {scr : List Tok} {drp : List Nat} (hb : ∀ i, getB b1 i = (getB b i).map (cleanVs scr drp)) {i : Nat} {cs : List V} (h : getB (catB wr b1) i = some cs) :
    getB wr i = some cs ∨ (getB wr i = none ∧ ∃ c0, getB b i = some c0 ∧ cs = cleanVs scr drp c0) := by
  rw [getB_cat] at h
  cases hw : getB wr i with
  | some c => rw [hw] at h; exact .inl h
  | none =>
    rw [hw] at h
    simp only [hb] at h
    cases hc : getB b i with
    | none => rw [hc] at h; cases h
    | some c0 => rw [hc] at h; exact .inr ⟨rfl, c0, rfl, by simpa using h.symm⟩
/-- a step: boxes written, tokens ended, cells settled -/
theorem WSim.step {x x' : Aux} {b b1 wr : Boxes} {w w' : World} {scr : List Tok} {drp : List Nat} (S : WSim I B0 M x b w) (hI : Stable I B0) (hb : ∀ i, getB b1 i = (getB b i).map (cleanVs scr drp))
    (hsub : ∀ k o v, x.h k o = some v → x'.h k o = some v) (hρ : ∀ i, i ∉ drp → x'.ρ i = x.ρ i) (hz : ∀ t, t ∉ scr → x'.z t = x.z t)
    (hs : w.heap.size ≤ w'.heap.size) (hM : ∀ k, ¬ M k → w'.heap[k]? = w.heap[k]?) (hag : ∀ k o v, x'.h k o = some v → w'.cell? ⟨k, o, none⟩ = some v)
    (hold : ∀ i cs, getB wr i = none → getB b i = some cs → i ∉ drp ∧ w'.heap[x.ρ i]? = w.heap[x.ρ i]? ∧ ∀ o, x'.h (x.ρ i) o = none)
    (hnew : ∀ i cs, getB wr i = some cs → M (x'.ρ i) ∧ (∀ o, x'.h (x'.ρ i) o = none) ∧ ∃ ws t, w'.heap[x'.ρ i]? = some (.cells ws t (0, 0)) ∧ RepVs x' cs ws.toList)
    (hinj : ∀ i j, (getB wr i ≠ none ∨ getB b i ≠ none) → (getB wr j ≠ none ∨ getB b j ≠ none) → x'.ρ i = x'.ρ j → i = j)
    (hzone : ∀ t k s e, x'.z t = some (k, s, e) → M k ∧ s ≤ e ∧ (∀ o, s ≤ o → x'.h k o = none) ∧ ∃ ws ty, w'.heap[k]? = some (.cells ws ty (0, 0)) ∧ ws.size = e)
    (hzinj : ∀ t t' k s e s' e', x'.z t = some (k, s, e) → x'.z t' = some (k, s', e') → t = t')
    (hzbox : ∀ t k s e i, x'.z t = some (k, s, e) → (getB wr i ≠ none ∨ getB b i ≠ none) → x'.ρ i ≠ k)
    (huu : ∀ k, x'.u k → ∃ ws f, w'.heap[k]? = some (.cells ws u8t f)) (hum : ∀ k, x.u k → x'.u k) (hkn : ∀ i cs, getB wr i = some cs → ∀ ws t f, w'.heap[x'.ρ i]? = some (.cells ws t f) → pw ws.toList = true → kn ws.size t = true) : WSim I B0 M x' (catB wr b1) w' := by
  have hsome : ∀ i cs, getB (catB wr b1) i = some cs → getB wr i ≠ none ∨ getB b i ≠ none := fun i cs h => by
    rcases getB_old hb h with h1 | ⟨_, c0, h1, _⟩
    · exact .inl (by rw [h1]; simp)
    · exact .inr (by rw [h1]; simp)
  refine ⟨S.keep hI (x' := x') hM hs, S.big, fun k hk => S.top k (by omega), hag, fun i cs hc => ?_, fun i j cs ds hc hd => hinj i j (hsome i cs hc) (hsome j ds hd), hzone, hzinj, fun t k s e i cs h1 h2 => hzbox t k s e i h1 (hsome i cs h2), huu, fun i cs hc => ?_⟩
  rotate_left
  · rcases getB_old hb hc with h1 | ⟨h1, c0, h2, rfl⟩
    · exact hkn i cs h1
    · obtain ⟨hd, hw, hn⟩ := hold i c0 h1 h2
      rw [hρ i hd, hw]; exact S.kt i c0 h2
  rcases getB_old hb hc with h1 | ⟨h1, c0, h2, rfl⟩
  · exact hnew i cs h1
  · obtain ⟨hd, hw, hn⟩ := hold i c0 h1 h2
    obtain ⟨hm, _, ws, t, hblk, hr⟩ := S.box i c0 h2
    rw [hρ i hd]
    exact ⟨hm, hn, ws, t, by rw [hw]; exact hblk, hr.clean hsub hρ hz hum⟩
/-- behind an effect: the temporaries -/
theorem Sim.eff {nt : Nat} {x x' : Aux} {t t1 : Tmps} {b b' : Boxes} {a : Act} {w w' : World} {scr : List Tok} {drp : List Nat} {dst : Option Nat} {u : V} {v : Value} (S : Sim I B0 M nt x t b a w)
    (ht : ∀ i, getT t1 i = cleanV scr drp (getT t i)) (hsub : ∀ k o v, x.h k o = some v → x'.h k o = some v) (hρ : ∀ i, i ∉ drp → x'.ρ i = x.ρ i) (hz : ∀ t, t ∉ scr → x'.z t = x.z t) (hum : ∀ k, x.u k → x'.u k)
    (hd : ∀ d, dst = some d → d < nt) (hv : dst ≠ none → RepV x' u v) (hw : WSim I B0 M x' b' w') : Sim I B0 M nt x' (putT dst u t1) b' (a.put dst v) w' := by
  have hcl : ∀ i, RepV x' (getT t1 i) (a.tmps.getD i undef) := fun i => by rw [ht]; exact (S.tm i).clean hsub hρ hz hum
  cases dst with
  | none => exact ⟨hcl, S.sz, S.df, hw⟩
  | some d =>
    have hlt : d < a.tmps.size := by rw [S.sz]; exact hd d rfl
    refine ⟨fun i => ?_, by simp [Act.put, S.sz], S.df, hw⟩
    show RepV x' (getT ((d, u) :: t1) i) ((a.tmps.setIfInBounds d v).getD i undef)
    rw [getT_put]
    by_cases h : d = i
    · subst h
      rw [if_pos rfl]
      have : (a.tmps.setIfInBounds d v).getD d undef = v := by simp [hlt]
      rw [this]; exact hv (by simp)
    · rw [if_neg h]
      have : (a.tmps.setIfInBounds d v).getD i undef = a.tmps.getD i undef := by
        simp [Array.getElem?_setIfInBounds_ne h]
      rw [this]; exact hcl i
/-- an operation that makes a value and changes nothing -/
theorem Sim.pure {nt : Nat} {x : Aux} {t t1 : Tmps} {b b1 : Boxes} {a : Act} {w : World} {dst : Option Nat} {u : V} {v : Value} (S : Sim I B0 M nt x t b a w)
    (ht : ∀ i, getT t1 i = cleanV [] [] (getT t i)) (hb : ∀ i, getB b1 i = (getB b i).map (cleanVs [] []))
    (hd : ∀ d, dst = some d → d < nt) (hv : RepV x u v) : Sim I B0 M nt x (putT dst u t1) (catB [] b1) (a.put dst v) w :=
  S.eff ht (fun _ _ _ h => h) (fun _ _ => rfl) (fun _ _ => rfl) (fun _ h => h) hd (fun _ => hv) (S.ws.same (fun i => by
    show getB b1 i = getB b i
    rw [hb]
    cases getB b i with
    | none => rfl
    | some cs => exact congrArg some (cleanVs_nil cs)))
/-- an operand's value -/
theorem Sim.ev {nt : Nat} {x : Aux} {t : Tmps} {b : Boxes} {a : Act} {w : World} (S : Sim I B0 M nt x t b a w) (q : Operand) : RepV x (St.ev ⟨t, b⟩ q) (a.eval q) := by
  cases q with
  | tmp i => exact S.tm i
  | const v =>
    show RepV x (ofConst v) v
    unfold ofConst
    split
    · exact rfl
    · exact rfl
    · exact RepD.int _ _
    · exact RepD.str _
    · exact RepD.nil 0
    · trivial
  | global g => trivial
  | func f => exact ⟨#[], #[], rfl, rfl, rfl⟩
end
end Go.Proofs.YtaddhpeainliiaaGreatDoor.Id
/-! ## IdealE -/
namespace Go.Proofs.YtaddhpeainliiaaGreatDoor.Id
open Go
set_option linter.unusedSectionVars false
set_option linter.unusedVariables false
set_option linter.unusedSimpArgs false

def kindOk : V → Option TypeDesc → Bool
  | .d (.bool _), some .bool | .d (.int _ _), some (.int _) | .d (.str _), some .string => true
  | _, _ => false
def flatOk (P : Program) : List V → List Field → Nat → Bool
  | [], [], _ => true
  | z :: zs, f :: r, i => f.name != "_" && f.offset == i && kindOk z (P.underlying f.type) && flatOk P zs r (i + 1)
  | _, _, _ => false
structure TIok (P : Program) (t : Nat) (ti : TI) : Prop where
  info : ∃ i z, P.info? t = some i ∧ i.size = ti.n ∧ i.zero = some z ∧ ∀ x, RepVs x ti.zero z.cells.toList
  kind : match ti.k with
    | .sc => ∃ d, P.underlying t = some d ∧ d.isRow = false ∧ ti.n = 1 ∧ (∀ k z, ti.zero = [.d (.int k z)] → d = .int k) ∧ (∀ s, ti.zero = [.d (.str s)] → d = .string) ∧ (∀ c, ti.zero = [.d (.bool c)] → d = .bool) ∧ (∀ y, ti.zero = [.d y] → P.concrete t = true)
    | .agg fs => ∃ fields, P.underlying t = some (.struct fields) ∧ fs = fields.toList.map (fun f => (f.offset, f.type)) ∧ (∀ f ∈ fields.toList, P.cellsOf f.type ≠ 0) ∧ (ti.cmp = true → P.stoodInHeld t = false ∧ P.eqGuardType P.depth t = false ∧ flatOk P ti.zero fields.toList 0 = true)
    | .arr e len => P.underlying t = some (.array len e)
    | .sl e n by_ => P.underlying t = some (.slice e) ∧ ti.n = 1 ∧ (∃ i z, P.info? e = some i ∧ i.size = n ∧ i.bytes = by_ ∧ i.zero = some z ∧ z.cells.size = n ∧ 0 < n ∧ 0 < by_) ∧ (ti.cmp = true → P.underlying e = some (.int .u8))
def TTok (P : Program) (tt : TT) : Prop := ∀ t ti, TT.get tt t = some ti → TIok P t ti

section
variable {P : Program} {tt : TT} {X : Given} {α : Type} {n : Nat}
theorem den_leaf {a b : α} (h : DenN P tt X n α (.leaf a) b) : a = b := by cases h; rfl
theorem den_fail {b : α} (h : DenN P tt X n α .fail b) : False := by cases h
theorem den_val {v : V} {r : Res} (h : DenN P tt X n Res (val v) r) : r = (none, { v := v }) := (den_leaf h).symm
theorem den_asrt {p : Prop} {y : T α} {b : α} (h : DenN P tt X n α (.asrt p y) b) : p ∧ DenN P tt X n α y b := by cases h; exact ⟨‹_›, ‹_›⟩
theorem den_ite {c : Bool} {y z : T α} {b : α} (h : DenN P tt X n α (.ite c y z) b) : (c = true ∧ DenN P tt X n α y b) ∨ (c = false ∧ DenN P tt X n α z b) := by
  cases h
  · exact .inl ⟨‹_›, ‹_›⟩
  · exact .inr ⟨‹_›, ‹_›⟩
theorem den_idx {es : List (List D)} {j : Int} {k : List D → T α} {b : α} (h : DenN P tt X n α (.idx es j k) b) : ∃ e, 0 ≤ j ∧ es[j.toNat]? = some e ∧ DenN P tt X n α (k e) b := by
  cases h; exact ⟨_, ‹_›, ‹_›, ‹_›⟩
theorem den_bytes {es : List (List D)} {k : ByteArray → T α} {b : α} (h : DenN P tt X n α (.bytes es k) b) : ∃ bs : List UInt8, es = bs.map byteD ∧ DenN P tt X n α (k ⟨bs.toArray⟩) b := by
  cases h; exact ⟨_, ‹_›, ‹_›⟩
end

section
variable (I : World → Prop) (B0 : Nat) (M : Nat → Prop)
/-- what an effect promises -/
structure EffOK (x : Aux) (b : Boxes) (e : Eff) (w : World) (v : Value) (x' : Aux) (w' : World) : Prop where
  sub : ∀ k o v, x.h k o = some v → x'.h k o = some v
  ρ : ∀ i, i ∉ e.drp → x'.ρ i = x.ρ i
  z : ∀ t, t ∉ e.scr → x'.z t = x.z t
  ws : ∀ b1, (∀ i, getB b1 i = (getB b i).map (cleanVs e.scr e.drp)) → WSim I B0 M x' (catB e.wr b1) w'
  ext : Ext M x w x' w'
  rv : RepV x' e.v v
  u : ∀ k, x.u k → x'.u k
end
def Goes (P : Program) (o : Oper) (a : Act) (w : World) (v : Value) (w' : World) : Prop :=
  (execOp a.eval o).run P w = .ok (.value v) w' ∨ ((execOp a.eval o).run P w = .ok .skip w' ∧ v = undef)
theorem Goes.wp {P : Program} {o : Oper} {a : Act} {w : World} {v : Value} {w' : World} (h : Goes P o a w v w') {K : Act → World → Prop} {Q : Exit → Act → World → Prop} (hK : K (a.put o.dst v) w') : o.wp P a w K Q := by
  unfold Oper.wp
  rcases h with h | ⟨h, rfl⟩
  · rw [h]; exact hK
  · rw [h]; exact hK
section
variable {I : World → Prop} {B0 : Nat} {M : Nat → Prop} {P : Program} {tt : TT} {X : Given} {n nt : Nat} {x : Aux} {t : Tmps} {b : Boxes} {a : Act} {w : World}
variable [Ds]
theorem EffOK.pure (S : Sim I B0 M nt x t b a w) {u : V} {v : Value} (hv : RepV x u v) : EffOK I B0 M x b { v := u } w v x w :=
  ⟨fun _ _ _ h => h, fun _ _ => rfl, fun _ _ => rfl, fun b1 hb => S.ws.same (fun i => by
    show getB b1 i = getB b i
    rw [hb]
    cases getB b i with
    | none => rfl
    | some cs => exact congrArg some (cleanVs_nil cs)), Ext.refl _ _, hv, fun _ h => h⟩
theorem RepV.d {v : Value} {y : D} (r : RepV x (.d y) v) : RepD x.h v y := r
/-- the shapes -/
theorem RepV.int {k : IntKind} {z : Int} {v : Value} (r : RepV x (.d (.int k z)) v) : v = .int k z := by cases (RepV.d r); rfl
theorem RepV.str {s : ByteArray} {v : Value} (r : RepV x (.d (.str s)) v) : v = .string s := by cases (RepV.d r); rfl
theorem RepV.bool {c : Bool} {v : Value} (r : RepV x (.d (.bool c)) v) : v = .bool c := by cases (RepV.d r); rfl
theorem RepV.unlit {u : V} {v : Value} (r : RepV x u v) : RepV x u.unlit v := by
  cases u <;> first | exact r | (have e : v = _ := r; subst e; exact RepD.bool _)
theorem RepN.plainV {u : V} {v : Value} (r : RepN x u v) : RepV x u.plain v := by
  cases u <;> exact r
theorem RepV.plain {u : V} {v : Value} (r : RepV x u v) : RepV x u.plain v := by
  cases u <;> first | exact r | exact RepOwn.repD r
theorem RepD.norm {h : H} {v : Value} {y : D} (r : RepD h v y) : RepD h v y.norm := by
  cases r <;> first | exact .sl0 _ | (constructor <;> assumption)
theorem RepDs.norm {h : H} : ∀ {ds : List D} {l : List Value}, RepDs h ds l → RepDs h (ds.map D.norm) l
  | [], _, r => r
  | _ :: _, _, ⟨v, vs, e, r, q⟩ => ⟨v, vs, e, r.norm, q.norm⟩
theorem RepN.norm {u : V} {v : Value} (r : RepN x u v) : RepN x u.norm v := by
  cases u with
  | d y => cases y <;> first | exact r | exact RepD.norm (RepV.d r)
  | lit c => have e : v = _ := r; subst e; exact RepD.bool _
  | agg ds => obtain ⟨cs, e, q⟩ := r; exact ⟨cs, e, q.norm⟩
  | own _ _ _ => exact r
  | _ => exact r
theorem norm_ne_own (u : V) : ∀ k m es, u.norm ≠ .own k m es := by
  intro k m es h
  cases u with
  | d y => cases y <;> cases h
  | _ => cases h
theorem RepV.norm {u : V} {v : Value} (r : RepV x u v) : RepV x u.norm v := RepN.toV r.toN.norm (norm_ne_own u)
theorem fixnil_rep {u : V} {v : Value} (k : Nat) (r : RepV x u v) : RepV x (fixnil tt k u) v := by
  unfold fixnil
  split
  · split
    · cases (RepV.d r); exact RepD.nil _
    · exact r
  · exact r
theorem RepD.one {h : H} {v : Value} {y : D} (r : RepD h v y) : v.oneCell' = true := by cases r <;> rfl
/-- an operation of the model, against what the ideal one does -/
def OpOK (I : World → Prop) (B0 : Nat) (M : Nat → Prop) (P : Program) (o : Oper) (a : Act) (x : Aux) (b : Boxes) (w : World) (r : Res) : Prop :=
  (r.1 = none → ∃ v x' w', Goes P o a w v w' ∧ EffOK I B0 M x b r.2 w v x' w') ∧
  ∀ u, r.1 = some u → r.2.wr = [] ∧ r.2.scr = [] ∧ r.2.drp = [] ∧ ∃ v, (execOp a.eval o).run P w = .halt (.panic v) w ∧ RepN x u v
theorem OpOK.pure {o : Oper} (S : Sim I B0 M nt x t b a w) {u : V} {v : Value} {r : Res} (h : r = (none, { v := u })) (hr : (execOp a.eval o).run P w = .ok (.value v) w) (hv : RepV x u v) : OpOK I B0 M P o a x b w r := by
  subst h
  exact ⟨fun _ => ⟨v, x, w, .inl hr, EffOK.pure S hv⟩, fun u hu => by cases hu⟩
variable {dst : Option Tmp} {ty : TypeId} {pos : String} {after : Array Edge} {guard : Option (Nat × Bool)} {r : Res}
theorem op_move (S : Sim I B0 M nt x t b a w) (y : Operand) (h : DenN P tt X n Res (opEff tt ⟨dst, .move y, ty, pos, after, guard⟩ (St.ev ⟨t, b⟩) (getB b)) r) : OpOK I B0 M P ⟨dst, .move y, ty, pos, after, guard⟩ a x b w r :=
  OpOK.pure S (den_val h) rfl (fixnil_rep ty (S.ev y))
theorem op_assign (S : Sim I B0 M nt x t b a w) (y : Operand) (h : DenN P tt X n Res (opEff tt ⟨dst, .assign y, ty, pos, after, guard⟩ (St.ev ⟨t, b⟩) (getB b)) r) : OpOK I B0 M P ⟨dst, .assign y, ty, pos, after, guard⟩ a x b w r :=
  OpOK.pure S (den_val h) rfl (fixnil_rep ty (S.ev y))
theorem op_pick (S : Sim I B0 M nt x t b a w) (c y z : Operand) (h : DenN P tt X n Res (opEff tt ⟨dst, .pick c y z, ty, pos, after, guard⟩ (St.ev ⟨t, b⟩) (getB b)) r) : OpOK I B0 M P ⟨dst, .pick c y z, ty, pos, after, guard⟩ a x b w r := by
  have hc := S.ev c
  simp only [opEff] at h
  have go : ∀ q : Bool, a.eval c = .bool q → DenN P tt X n Res (val (St.ev ⟨t, b⟩ (if q then y else z))) r → OpOK I B0 M P ⟨dst, .pick c y z, ty, pos, after, guard⟩ a x b w r := by
    intro q hq hv
    refine OpOK.pure S (v := a.eval (if q then y else z)) (den_val hv) ?_ (S.ev _)
    simp only [execOp, hq, asBool]
    cases q <;> rfl
  split at h
  · rename_i e; rw [e] at hc; exact go true hc h
  · rename_i e; rw [e] at hc; exact go false hc h
  · rename_i q e
    rw [e] at hc
    rcases den_ite h with ⟨rfl, h2⟩ | ⟨rfl, h2⟩
    · exact go true hc.bool h2
    · exact go false hc.bool h2
  · exact (den_fail h).elim
theorem op_nilCheck (S : Sim I B0 M nt x t b a w) (y : Operand) (h : DenN P tt X n Res (opEff tt ⟨dst, .nilCheck y, ty, pos, after, guard⟩ (St.ev ⟨t, b⟩) (getB b)) r) : OpOK I B0 M P ⟨dst, .nilCheck y, ty, pos, after, guard⟩ a x b w r := by
  have hc := S.ev y
  simp only [opEff] at h
  split at h
  · rename_i e; rw [e] at hc
    have hp : a.eval y = _ := hc
    refine OpOK.pure S (v := a.eval y) (den_val h) ?_ hc
    simp only [execOp, hp]; rfl
  · rename_i e; rw [e] at hc
    obtain ⟨bk, of, hp, hq⟩ := hc
    refine OpOK.pure S (v := a.eval y) (den_val h) ?_ ⟨bk, of, hp, hq⟩
    simp only [execOp, hp]; rfl
  · rename_i e; rw [e] at hc
    obtain ⟨ags, bs, hp, hq⟩ := hc
    refine OpOK.pure S (v := a.eval y) (den_val h) ?_ ⟨ags, bs, hp, hq⟩
    simp only [execOp, hp]; rfl
  · exact (den_fail h).elim
theorem op_extract (S : Sim I B0 M nt x t b a w) (y : Operand) (i : Nat) (h : DenN P tt X n Res (opEff tt ⟨dst, .extract y i, ty, pos, after, guard⟩ (St.ev ⟨t, b⟩) (getB b)) r) : OpOK I B0 M P ⟨dst, .extract y i, ty, pos, after, guard⟩ a x b w r := by
  have hc := S.ev y
  simp only [opEff] at h
  split at h
  · rename_i vs e; rw [e] at hc
    obtain ⟨ws, hp, hq⟩ := hc
    have key : ∀ (us : List V) (l : List Value) (i : Nat) u, RepNs x us l → us[i]? = some u → ∃ v, l[i]? = some v ∧ RepN x u v := by
      intro us
      induction us with
      | nil => intro l i u _ hu; cases hu
      | cons u0 us ih =>
        intro l i u hr hu
        obtain ⟨v0, l0, rfl, h1, h2⟩ := hr
        cases i with
        | zero => simp at hu; subst hu; exact ⟨v0, rfl, h1⟩
        | succ i => exact ih l0 i u h2 (by simpa using hu)
    split at h
    · rename_i u hu
      obtain ⟨v, hv, hr⟩ := key vs _ i u hq hu
      have hv' : ws[i]? = some v := by rw [← Array.getElem?_toList]; exact hv
      refine OpOK.pure S (v := v) (den_val h) ?_ hr.plainV
      simp [execOp, hp, Instr.extract, hv']
    · exact (den_fail h).elim
  · exact (den_fail h).elim
theorem den_bind {α β : Type} {n : Nat} {t : T α} {f : α → T β} {r : β} (h : DenN P tt X n β (t.bind f) r) : ∃ a, DenN P tt X n α t a ∧ DenN P tt X n β (f a) r := h.unbind
theorem eqGuard_int (op : BinOp) (t : TypeId) (p q : Operand) (k k' : IntKind) (c d : Int) : (eqGuard op t p q (.int k c) (.int k' d)).run P w = .ok () w := by
  cases op <;> simp [eqGuard, pure, Sem.run]
theorem eqGuard_str (op : BinOp) (t : TypeId) (p q : Operand) (c d : ByteArray) : (eqGuard op t p q (.string c) (.string d)).run P w = .ok () w := by
  cases op <;> simp [eqGuard, pure, Sem.run]
theorem eqGuard_bool (op : BinOp) (t : TypeId) (p q : Operand) (c d : Bool) : (eqGuard op t p q (.bool c) (.bool d)).run P w = .ok () w := by
  cases op <;> simp [eqGuard, pure, Sem.run]
theorem run_guarded {op : BinOp} {t : TypeId} {p q : Operand} {u v : Value} {y : Value} (h : (eqGuard op t p q u v).run P w = .ok () w) (g : (binOp op t u v).run P w = .ok y w) :
    (do eqGuard op t p q u v; binOp op t u v : Sem Value).run P w = .ok y w := by
  rw [Sem.run_bind, h]; exact g
theorem data_eq_iff (c d : ByteArray) : (c.data.toList == d.data.toList) = decide (c = d) := by
  obtain ⟨⟨l⟩⟩ := c; obtain ⟨⟨m⟩⟩ := d
  by_cases h : l = m
  · subst h; simp
  · have h2 : (⟨⟨l⟩⟩ : ByteArray) ≠ ⟨⟨m⟩⟩ := fun e => h (by injection e with e; injection e)
    rw [decide_eq_false h2]; simpa using h
theorem run_evInt (op : BinOp) (tq : TypeId) (k k' : IntKind) (c d : Int) {u : V} (hk : (op = .shl ∨ op = .shr) ∨ k = k') (h : DenN P tt X n V (evInt op k c d) u) : ∃ v, (binOp op tq (.int k c) (.int k' d)).run P w = .ok v w ∧ RepV x u v := by
  have kk : op ≠ .shl → op ≠ .shr → k = k' := fun h1 h2 => hk.resolve_left (fun h => h.elim h1 h2)
  cases op <;> simp only [evInt] at h
  case shl =>
    obtain ⟨h0, h⟩ := den_asrt h; obtain rfl := den_leaf h
    refine ⟨_, ?_, RepD.int _ _⟩
    simp [binOp, Op.shift, show ¬ d < 0 by omega]
  case shr =>
    obtain ⟨h0, h⟩ := den_asrt h; obtain rfl := den_leaf h
    refine ⟨_, ?_, RepD.int _ _⟩
    simp [binOp, Op.shift, show ¬ d < 0 by omega]
  case quo =>
    obtain rfl := kk (by simp) (by simp)
    obtain ⟨h0, h⟩ := den_asrt h; obtain rfl := den_leaf h
    refine ⟨_, ?_, RepD.int _ _⟩
    simp [binOp, Op.intDiv, h0]
  case rem =>
    obtain rfl := kk (by simp) (by simp)
    obtain ⟨h0, h⟩ := den_asrt h; obtain rfl := den_leaf h
    refine ⟨_, ?_, RepD.int _ _⟩
    simp [binOp, Op.intDiv, h0]
  case andNot => exact (den_fail h).elim
  all_goals
    obtain rfl := kk (by simp) (by simp)
    first
    | (obtain rfl := den_leaf h
       refine ⟨_, ?_, by first | exact RepD.int _ _ | exact RepD.bool _⟩
       simp [binOp, Op.intArith, Op.intCmp, Op.intBits]
       done)
    | (obtain rfl := den_leaf h
       refine ⟨_, ?_, by first | exact RepD.int _ _ | exact RepD.bool _⟩
       simp [binOp, Op.intArith, Op.intCmp, Op.intBits]
       first | (rw [Bool.eq_iff_iff]; simp) | skip)
theorem run_evStr (op : BinOp) (tq : TypeId) (c d : ByteArray) {u : V} (h : DenN P tt X n V (evStr op c d) u) : ∃ v, (binOp op tq (.string c) (.string d)).run P w = .ok v w ∧ RepV x u v := by
  cases op <;> simp only [evStr] at h
  case add =>
    obtain ⟨h0, h⟩ := den_asrt h; obtain rfl := den_leaf h
    refine ⟨.string (c ++ d), ?_, RepD.str _⟩
    have : ¬ (((c.size + d.size : Nat) : Int) > IntKind.i64.max) := by
      have e : IntKind.i64.max = 9223372036854775807 := by decide
      rw [e]; omega
    simp only [binOp, Op.stringOp, if_neg this]; rfl
  all_goals first
    | exact (den_fail h).elim
    | (obtain rfl := den_leaf h
       refine ⟨_, ?_, RepD.bool _⟩
       simp only [binOp, Op.stringOp, ByteArray.toList_eq, data_eq_iff]
       rfl)
theorem eqD_rep {h : H} {z : V} {y y' : D} {v v' : Value} {q : Bool} (d : Nat) (ft : TypeId) (r : RepD h v y) (r' : RepD h v' y') (he : eqD z y y' = some q)
    (ht : kindOk z (P.underlying ft) = true) : (Op.equalIn (d + 1) ft v v').run P w = .ok q w := by
  have hud : ∃ ud, P.underlying ft = some ud := by
    cases hu : P.underlying ft with
    | none => rw [hu] at ht; cases z <;> try (cases ht; done)
              rename_i z0; cases z0 <;> cases ht
    | some ud => exact ⟨ud, rfl⟩
  obtain ⟨ud, hu⟩ := hud
  rw [hu] at ht
  cases z with
  | d z0 =>
    cases z0 with
    | bool _ =>
      cases r <;> cases r' <;> simp only [eqD] at he <;> first | (cases he; done) | skip
      cases he
      cases ud <;> first | (cases ht; done) | skip
      exact run_equalIn_bool' w d ft _ _ hu
    | int _ _ =>
      cases r <;> cases r' <;> simp only [eqD] at he <;> first | (cases he; done) | skip
      cases ud <;> first | (cases ht; done) | skip
      split at he
      · rename_i e
        obtain rfl := of_decide_eq_true e
        obtain rfl := Option.some.inj he
        rw [run_equalIn_int w d ft _ _ _ _ hu]; congr 1
      · cases he
    | str _ =>
      cases r <;> cases r' <;> simp only [eqD] at he <;> first | (cases he; done) | skip
      cases he
      cases ud <;> first | (cases ht; done) | skip
      rw [run_equalIn_string w d ft _ _ hu, ByteArray.toList_eq, ByteArray.toList_eq, data_eq_iff]
    | _ => cases r <;> cases r' <;> cases he
  | _ => cases he
theorem eqDs_rep {h : H} (d : Nat) : ∀ (zs : List V) (ds es : List D) (l m : List Value) (q : Bool) (fs : List Field) (xs ys : Array Value) (off : Nat), RepDs h ds l → RepDs h es m → eqDs zs ds es = some q → xs.toList.drop off = l → ys.toList.drop off = m →
    flatOk P zs fs off = true → (Op.eqFields (d + 1) xs ys fs).run P w = .ok q w
  | [], ds, es, l, m, q, fs, xs, ys, off, hr, hq, he, hx, hy, hf => by
    cases fs with
    | nil =>
      have : q = true := by
        cases ds <;> cases es <;> simp [eqDs] at he
        first | exact he.symm | exact he
      subst this
      simp [Op.eqFields]
    | cons _ _ => cases hf
  | z :: zs, [], es, l, m, q, fs, xs, ys, off, hr, hq, he, hx, hy, hf => by cases he
  | z :: zs, _ :: _, [], l, m, q, fs, xs, ys, off, hr, hq, he, hx, hy, hf => by cases he
  | z :: zs, y :: ds, y' :: es, l, m, q, fs, xs, ys, off, hr, hq, he, hx, hy, hf => by
    cases fs with
    | nil => cases hf
    | cons f fs =>
      obtain ⟨v, l, rfl, r1, r2⟩ := hr
      obtain ⟨v', m, rfl, q1, q2⟩ := hq
      simp only [eqDs] at he
      cases h1 : eqD z y y' with
      | none => rw [h1] at he; cases he
      | some c =>
        cases h2 : eqDs zs ds es with
        | none => rw [h1, h2] at he; cases he
        | some c2 =>
          rw [h1, h2] at he
          cases he
          simp only [flatOk, Bool.and_eq_true, bne_iff_ne, beq_iff_eq] at hf
          obtain ⟨⟨⟨hname, hoff⟩, hty⟩, hrest⟩ := hf
          have gx : xs[off]? = some v := by rw [← Array.getElem?_toList]; have := congrArg (·[0]?) hx; simpa using this
          have gy : ys[off]? = some v' := by rw [← Array.getElem?_toList]; have := congrArg (·[0]?) hy; simpa using this
          have dx : xs.toList.drop (off + 1) = l := by have := congrArg List.tail hx; simpa using this
          have dy : ys.toList.drop (off + 1) = m := by have := congrArg List.tail hy; simpa using this
          have ih := eqDs_rep d zs ds es l m c2 fs xs ys (off + 1) r2 q2 h2 dx dy hrest
          have hagg : (Go.isAgg f.type).run P w = .ok false w := by
            have hud : ∃ ud, P.underlying f.type = some ud ∧ ud.isRow = false := by
              cases hu : P.underlying f.type with
              | none => rw [hu] at hty; cases z <;> try (cases hty; done)
                        rename_i z0; cases z0 <;> cases hty
              | some ud =>
                rw [hu] at hty
                refine ⟨ud, rfl, ?_⟩
                cases z <;> try (cases hty; done)
                rename_i z0
                cases z0 <;> cases ud <;> first | rfl | cases hty
            obtain ⟨ud, hu, hrow⟩ := hud
            unfold Go.isAgg
            cases ud <;> first | (cases hrow; done) | simp [run_underlying hu]
          have hpart : ∀ (zs : Array Value) u, zs[off]? = some u → (part f.type zs f.offset).run P w = .ok u w := by
            intro zs u hu
            rw [hoff]
            unfold part
            rw [Sem.run_bind, hagg]
            simp [hu]
          rw [Op.eqFields]
          simp only [if_pos hname, Sem.run_bind, hpart xs v gx, hpart ys v' gy, eqD_rep d f.type r1 q1 h1 hty, Result.andThen_ok]
          cases c
          · simp
          · simpa using ih
theorem op_binOp (htt : TTok P tt) (S : Sim I B0 M nt x t b a w) (op : BinOp) (tq yt : TypeId) (y z : Operand) (h : DenN P tt X n Res (opEff tt ⟨dst, .binOp op tq y z yt, ty, pos, after, guard⟩ (St.ev ⟨t, b⟩) (getB b)) r) : OpOK I B0 M P ⟨dst, .binOp op tq y z yt, ty, pos, after, guard⟩ a x b w r := by
  obtain ⟨u, h1, h2⟩ := den_bind h
  have hy := (S.ev y).unlit
  have hz := (S.ev z).unlit
  have fin : ∀ v, (do eqGuard op tq y z (a.eval y) (a.eval z); binOp op tq (a.eval y) (a.eval z) : Sem Value).run P w = .ok v w → RepV x u v → OpOK I B0 M P ⟨dst, .binOp op tq y z yt, ty, pos, after, guard⟩ a x b w r := by
    intro v hr hv
    refine OpOK.pure S (den_val h2) ?_ hv
    simp only [execOp]
    rw [Sem.run_bind, hr]; rfl
  generalize hvy : a.eval y = vy at *
  generalize hvz : a.eval z = vz at *
  generalize (St.ev ⟨t, b⟩ y).unlit = uy at *
  generalize (St.ev ⟨t, b⟩ z).unlit = uz at *
  unfold evBin at h1
  split at h1
  · obtain rfl := hy.int; obtain rfl := hz.int
    rename_i _ _ k c k' d
    have hk : ((op = .shl ∨ op = .shr) ∨ k = k') → DenN P tt X n V (evInt op k c d) u → OpOK I B0 M P ⟨dst, .binOp op tq y z yt, ty, pos, after, guard⟩ a x b w r := fun hk h1 => by
      obtain ⟨v, g1, g2⟩ := run_evInt (w := w) (x := x) op tq k k' c d hk h1
      exact fin v (run_guarded (eqGuard_int op tq y z _ _ _ _) g1) g2
    split at h1
    · exact hk (.inl (.inl rfl)) h1
    · exact hk (.inl (.inr rfl)) h1
    · split at h1
      · rename_i e; exact hk (.inr (of_decide_eq_true e)) h1
      · exact (den_fail h1).elim
  · obtain rfl := hy.str; obtain rfl := hz.str
    obtain ⟨v, g1, g2⟩ := run_evStr (w := w) (x := x) op tq _ _ h1
    exact fin v (run_guarded (eqGuard_str op tq y z _ _) g1) g2
  · obtain rfl := hy.bool; obtain rfl := hz.bool
    split at h1
    · rename_i e
      obtain ⟨d, hu, _, _, _, _, hb, _⟩ := (htt _ _ e).kind
      obtain rfl := hb _ rfl
      obtain rfl := den_leaf h1
      refine fin _ (run_guarded (eqGuard_bool .eql tq y z _ _) ?_) (RepD.bool _)
      simp [binOp, Op.equal, Op.maxDepth, run_equalIn_bool' w _ tq _ _ hu]
    · rename_i e
      obtain ⟨d, hu, _, _, _, _, hb, _⟩ := (htt _ _ e).kind
      obtain rfl := hb _ rfl
      obtain rfl := den_leaf h1
      refine fin _ (run_guarded (eqGuard_bool .neq tq y z _ _) ?_) (RepD.bool _)
      simp [binOp, Op.equal, Op.maxDepth, run_equalIn_bool' w _ tq _ _ hu]
    · exact (den_fail h1).elim
  · obtain ⟨cs, rfl, q1⟩ := hy
    obtain ⟨ds, rfl, q2⟩ := hz
    split at h1
    · rename_i e
      obtain ⟨fields, hu, _, _, hc⟩ := (htt _ _ e).kind
      obtain ⟨c1, c2, c3⟩ := hc rfl
      have hgd := run_eqGuard_agg (P := P) w op tq y z cs ds c2
      have heq : ∀ q, eqDs _ _ _ = some q → (Op.equalIn 10000 tq (.agg cs) (.agg ds)).run P w = .ok q w := fun q hq => by
        have hf : P.fieldsOf tq = fields := by simp [Program.fieldsOf, hu]
        rw [run_equalIn_struct (P := P) w 9999 tq cs ds (by rw [hf]; exact hu) c1, hf]
        exact eqDs_rep 9998 _ _ _ _ _ q fields.toList cs ds 0 q1 q2 hq (by simp) (by simp) c3
      split at h1
      · rename_i q hq
        obtain rfl := den_leaf h1
        refine fin _ (run_guarded hgd ?_) (RepD.bool _)
        rw [run_eql_struct, heq q hq]; rfl
      · rename_i q hq
        obtain rfl := den_leaf h1
        refine fin _ (run_guarded hgd ?_) (RepD.bool _)
        rw [run_neq_struct, heq q hq]; rfl
      · exact (den_fail h1).elim
    · exact (den_fail h1).elim
  · exact (den_fail h1).elim
theorem op_unOp (S : Sim I B0 M nt x t b a w) (op : UnOp) (tq : TypeId) (y : Operand) (h : DenN P tt X n Res (opEff tt ⟨dst, .unOp op tq y, ty, pos, after, guard⟩ (St.ev ⟨t, b⟩) (getB b)) r) : OpOK I B0 M P ⟨dst, .unOp op tq y, ty, pos, after, guard⟩ a x b w r := by
  obtain ⟨u, h1, h2⟩ := den_bind h
  have hy := (S.ev y).unlit
  unfold evUn at h1
  split at h1
  · rename_i e; rw [e] at hy
    obtain rfl := den_leaf h1
    refine OpOK.pure S (den_val h2) ?_ (RepD.int _ _)
    simp [execOp, hy.int, Op.unary, Op.intArith]
  · rename_i e; rw [e] at hy
    obtain rfl := den_leaf h1
    refine OpOK.pure S (den_val h2) ?_ (RepD.bool _)
    simp [execOp, hy.bool, Op.unary]
  · exact (den_fail h1).elim
end
end Go.Proofs.YtaddhpeainliiaaGreatDoor.Id
/-! ## IdealF -/
namespace Go.Proofs.YtaddhpeainliiaaGreatDoor.Id
open Go
set_option linter.unusedSectionVars false
set_option linter.unusedVariables false
set_option linter.unusedSimpArgs false
section
variable {I : World → Prop} {B0 : Nat} {M : Nat → Prop} {P : Program} {tt : TT} {X : Given} {n nt : Nat} {x : Aux} {t : Tmps} {b : Boxes} {a : Act} {w : World}
variable [Ds]
variable {dst : Option Tmp} {ty : TypeId} {pos : String} {after : Array Edge} {guard : Option (Nat × Bool)} {r : Res}
theorem op_makeInterface (htt : TTok P tt) (S : Sim I B0 M nt x t b a w) (tq : TypeId) (y : Operand) (h : DenN P tt X n Res (opEff tt ⟨dst, .makeInterface tq y, ty, pos, after, guard⟩ (St.ev ⟨t, b⟩) (getB b)) r) : OpOK I B0 M P ⟨dst, .makeInterface tq y, ty, pos, after, guard⟩ a x b w r := by
  have hy := (S.ev y).norm
  simp only [opEff] at h
  split at h
  · rename_i e1 e2; rw [e2] at hy
    obtain ⟨d, _, _, _, _, _, _, hc⟩ := (htt _ _ e1).kind
    refine OpOK.pure S (v := .iface tq (a.eval y)) (den_val h) ?_ ⟨_, rfl, hy⟩
    simp only [execOp]; rw [Sem.run_bind, run_makeInterface w _ _ (hc _ rfl)]; rfl
  · rename_i e1 e2; rw [e2] at hy
    obtain ⟨fields, hu, _⟩ := (htt _ _ e1).kind
    refine OpOK.pure S (v := .iface tq (a.eval y)) (den_val h) ?_ ⟨_, rfl, hy⟩
    simp only [execOp]; rw [Sem.run_bind, run_makeInterface w _ _ (by simp [Program.concrete, hu])]; rfl
  · exact (den_fail h).elim
theorem RepNs.map {l : List Operand} (S : Sim I B0 M nt x t b a w) : RepNs x (l.map fun y => (St.ev ⟨t, b⟩ y).plain) (l.map a.eval) := by
  induction l with
  | nil => rfl
  | cons y l ih => exact ⟨_, _, rfl, ((S.ev y).plain).toN, ih⟩
theorem op_makeFunc (S : Sim I B0 M nt x t b a w) (f : FuncId) (ags bs : Array Operand) (h : DenN P tt X n Res (opEff tt ⟨dst, .makeFunc (.func f) ags bs, ty, pos, after, guard⟩ (St.ev ⟨t, b⟩) (getB b)) r) : OpOK I B0 M P ⟨dst, .makeFunc (.func f) ags bs, ty, pos, after, guard⟩ a x b w r := by
  refine OpOK.pure S (v := .func (.func f) (ags.map a.eval) (bs.map a.eval)) (den_val h) ?_ ⟨_, _, rfl, ?_, ?_⟩
  · simp [execOp, Instr.makeFunc]
  · rw [Array.toList_map]; exact RepNs.map S
  · rw [Array.toList_map]; exact RepNs.map S
theorem slOf_rep {u : V} {v : Value} {m : Nat} {es : List (List D)} (h : slOf u = some (m, es)) (r : RepV x u v) : RepD x.h v (.sl m es) := by
  unfold slOf at h
  split at h
  · cases h; exact RepOwn.repD r
  · cases h; exact r
  · cases h; cases (RepV.d r); exact .sl0 _
  · cases h
theorem RepD.slice {h : H} {v : Value} {m : Nat} {es : List (List D)} (r : RepD h v (.sl m es)) : (v = .slice none 0 0 ∧ es = []) ∨
    ∃ (ad : Addr) (cap : Nat) (vs : Nat → Nat → Value), v = .slice (some ad) es.length cap ∧ (es ≠ [] → ad.spot = none) ∧ es.length ≤ cap ∧ (∀ (j : Nat) e, es[j]? = some e → e.length = m) ∧
      (∀ (j : Nat) e (i : Nat) x, es[j]? = some e → e[i]? = some x → h ad.block (ad.off + (j * m + i)) = some (vs j i)) ∧ ∀ (j : Nat) e (i : Nat) x, es[j]? = some e → e[i]? = some x → RepD h (vs j i) x := by
  cases r with
  | sl0 => exact .inl ⟨rfl, rfl⟩
  | sl ad cap _ _ vs ha hc hn hh hr => exact .inr ⟨ad, cap, vs, rfl, ha, hc, hn, hh, hr⟩
theorem RepAt.of {h : H} {bk : Nat} : ∀ (e : List D) (o : Nat) (vs : Nat → Value), (∀ (i : Nat) y, e[i]? = some y → h bk (o + i) = some (vs i) ∧ RepD h (vs i) y) → RepAt h bk o e
  | [], _, _, _ => trivial
  | y :: e, o, vs, hh => ⟨⟨vs 0, by simpa using hh 0 y rfl⟩, RepAt.of e (o + 1) (fun i => vs (i + 1)) (fun i z hz => by
      have := hh (i + 1) z (by simpa using hz)
      rw [show o + 1 + i = o + (i + 1) by omega]; exact this)⟩
theorem RepAt.drop {h : H} {bk : Nat} : ∀ (e : List D) (o k : Nat), RepAt h bk o e → RepAt h bk (o + k) (e.drop k)
  | [], _, k, _ => by simp [RepAt]
  | _ :: _, o, 0, r => r
  | y :: e, o, k + 1, r => by
    rw [show o + (k + 1) = o + 1 + k by omega]
    exact RepAt.drop e (o + 1) k r.2
theorem add_plain (bk off k : Nat) : (⟨bk, off, none⟩ : Addr).add k = ⟨bk, off + k, none⟩ := Addr.add_mid bk off k
theorem intOf_rep {u : V} {v : Value} {j : Int} (h : intOf u = some j) (r : RepV x u v) : ∃ k, v = .int k j := by
  unfold intOf at h
  split at h
  · cases h; exact ⟨_, r.int⟩
  · cases h
theorem op_indexAddr (htt : TTok P tt) (S : Sim I B0 M nt x t b a w) (tq : TypeId) (y z : Operand) (h : DenN P tt X n Res (opEff tt ⟨dst, .indexAddr tq y z, ty, pos, after, guard⟩ (St.ev ⟨t, b⟩) (getB b)) r) : OpOK I B0 M P ⟨dst, .indexAddr tq y z, ty, pos, after, guard⟩ a x b w r := by
  have hy := S.ev y
  have hz := S.ev z
  simp only [opEff] at h
  split at h
  · rename_i el q by0 n1 zero cmp m es j e1 e2 e3
    obtain ⟨hu, _, ⟨i, zz, hi, hsz, _⟩, _⟩ := (htt _ _ e1).kind
    obtain ⟨k, hk⟩ := intOf_rep e3 hz
    have hr := slOf_rep e2 hy
    obtain ⟨e, h0, h1, h2⟩ := den_idx h
    split at h2
    · rename_i hm
      have hm := Nat.eq_of_beq_eq_true hm
      generalize hv : a.eval y = v at *
      rcases hr.slice with ⟨rfl, rfl⟩ | ⟨⟨bk, off, sp⟩, cap, vs, rfl, ha, hc, hn, hh, hrr⟩
      · simp at h1
      · subst hm
        have hlt := (List.getElem?_eq_some_iff.1 h1).1
        have hsp : sp = none := ha (by intro e0; rw [e0] at hlt; simp at hlt)
        subst hsp
        have hel : P.elem tq = el := by simp [Program.elem, hu]
        refine OpOK.pure S (v := .pointer (some ⟨bk, off + j.toNat * m, none⟩)) (den_val h2) ?_ ⟨bk, _, rfl, RepAt.of e _ (vs j.toNat) (fun q d hq => ⟨?_, hrr _ _ _ _ h1 hq⟩)⟩
        · simp only [execOp, hv, hk]
          rw [Sem.run_bind, run_indexAt_slice (h := by rw [hu]; simp [Program.elem, hu]), if_pos ⟨h0, by omega⟩, hel]
          have hso : (sizeOf el).run P w = .ok m w := by rw [run_sizeOf w hi]; simp [Program.cellsOf, hi, hsz]
          rw [hso]
          simp only [Result.andThen_ok, add_plain]
          rfl
        · rw [Nat.add_assoc]; exact hh _ _ _ _ h1 hq
    · exact (den_fail h2).elim
  · exact (den_fail h).elim
theorem op_fieldAddr (htt : TTok P tt) (S : Sim I B0 M nt x t b a w) (tq : TypeId) (y : Operand) (f : Nat) (h : DenN P tt X n Res (opEff tt ⟨dst, .fieldAddr tq y f, ty, pos, after, guard⟩ (St.ev ⟨t, b⟩) (getB b)) r) : OpOK I B0 M P ⟨dst, .fieldAddr tq y f, ty, pos, after, guard⟩ a x b w r := by
  have hy := S.ev y
  simp only [opEff] at h
  split at h
  · rename_i e1
    obtain ⟨fields, hu, rfl, hne, _⟩ := (htt _ _ e1).kind
    have run : ∀ (fl : Field) bk off, fields[f]? = some fl → (Instr.fieldAt tq (.pointer (some ⟨bk, off, none⟩)) f).run P w = .ok (.pointer (some ⟨bk, off + fl.offset, none⟩)) w := by
      intro fl bk off hf
      have hm : fl ∈ fields.toList := by
        rw [← Array.getElem?_toList] at hf
        exact List.mem_of_getElem? hf
      have h0 := hne fl hm
      cases hq : P.info? fl.type with
      | none => simp [Program.cellsOf, hq] at h0
      | some i =>
        have hsz : i.size ≠ 0 := by simpa [Program.cellsOf, hq] using h0
        simp [Instr.fieldAt, run_underlying hu, hf, Instr.sureAddr, fieldPlace, sizeOf, typeInfo, hq, hsz, add_plain]
    have hfield : ∀ off ft, (fields.toList.map fun q => (q.offset, q.type))[f]? = some (off, ft) → ∃ fl, fields[f]? = some fl ∧ fl.offset = off := by
      intro off ft hq
      rw [List.getElem?_map, Array.getElem?_toList] at hq
      cases hf : fields[f]? with
      | none => rw [hf] at hq; cases hq
      | some fl => rw [hf] at hq; simp at hq; exact ⟨fl, rfl, hq.1⟩
    split at h
    · rename_i off ft i o e2 e3
      rw [e3] at hy
      have hp : a.eval y = _ := hy
      obtain ⟨fl, hf, rfl⟩ := hfield _ _ e2
      refine OpOK.pure S (v := .pointer (some ⟨x.ρ i, o + fl.offset, none⟩)) (den_val h) ?_ rfl
      simp only [execOp, hp]; rw [Sem.run_bind, run fl _ _ hf]; rfl
    · rename_i off ft ds e2 e3
      rw [e3] at hy
      obtain ⟨bk, o, hp, hq⟩ := hy
      obtain ⟨fl, hf, rfl⟩ := hfield _ _ e2
      refine OpOK.pure S (v := .pointer (some ⟨bk, o + fl.offset, none⟩)) (den_val h) ?_ ⟨_, _, rfl, RepAt.drop _ _ _ hq⟩
      simp only [execOp, hp]; rw [Sem.run_bind, run fl _ _ hf]; rfl
    · exact (den_fail h).elim
  · exact (den_fail h).elim
/-! ### loads -/
theorem RepVs.get {us : List V} : ∀ {l : List Value} {i : Nat} {u : V}, RepVs x us l → us[i]? = some u → ∃ v, l[i]? = some v ∧ RepV x u v := by
  induction us with
  | nil => intro l i u _ hu; cases hu
  | cons u0 us ih =>
    intro l i u hr hu
    obtain ⟨v0, l0, rfl, h1, h2⟩ := hr
    cases i with
    | zero => simp at hu; subst hu; exact ⟨v0, rfl, h1⟩
    | succ i => obtain ⟨v, g1, g2⟩ := ih h2 (by simpa using hu : us[i]? = some u); exact ⟨v, by simpa using g1, g2⟩
theorem RepVs.drop {us : List V} : ∀ {l : List Value} (k : Nat), RepVs x us l → RepVs x (us.drop k) (l.drop k) := by
  induction us with
  | nil => intro l k h; have : l = [] := h; subst this; simp [RepVs]
  | cons u us ih =>
    intro l k h
    obtain ⟨v, l0, rfl, h1, h2⟩ := h
    cases k with
    | zero => exact ⟨v, l0, rfl, h1, h2⟩
    | succ k => exact ih k h2
theorem RepVs.length {us : List V} : ∀ {l : List Value}, RepVs x us l → l.length = us.length := by
  induction us with
  | nil => intro l h; have : l = [] := h; subst this; rfl
  | cons u us ih => intro l h; obtain ⟨v, l0, rfl, _, h2⟩ := h; simp [ih h2]
theorem RepDs.length {h : H} {us : List D} : ∀ {l : List Value}, RepDs h us l → l.length = us.length := by
  induction us with
  | nil => intro l h; have : l = [] := h; subst this; rfl
  | cons u us ih => intro l h; obtain ⟨v, l0, rfl, _, h2⟩ := h; simp [ih h2]
theorem toD_rep {u : V} {v : Value} {y : D} (h : u.toD = some y) (r : RepV x u v) : RepD x.h v y := by
  cases u <;> simp only [V.toD] at h <;> first | (cases h; done) | skip
  · cases h; have e : v = _ := r; subst e; exact RepD.bool _
  · cases h; exact r
  · cases h; exact RepOwn.repD r
theorem takeV_rep : ∀ {k : Nat} {us : List V} {l : List Value} {ds : List D}, takeV k us = some ds → RepVs x us l → ds.length = k ∧ RepDs x.h ds (l.take k) ∧ k ≤ l.length
  | 0, us, l, ds, h, r => by cases h; simp [RepDs]
  | k + 1, [], l, ds, h, r => by cases h
  | k + 1, u :: us, l, ds, h, r => by
    obtain ⟨v, l0, rfl, r1, r2⟩ := r
    simp only [takeV] at h
    cases h1 : u.toD with
    | none => rw [h1] at h; cases h
    | some y =>
      cases h2 : takeV k us with
      | none => rw [h1, h2] at h; cases h
      | some ys =>
        rw [h1, h2] at h
        cases h
        obtain ⟨g1, g2, g3⟩ := takeV_rep h2 r2
        exact ⟨by simp [g1], ⟨v, l0.take k, rfl, toD_rep h1 r1, g2⟩, by simp; omega⟩
theorem takeD_rep {h : H} {bk : Nat} : ∀ {k : Nat} {us ds : List D} {o : Nat}, takeD k us = some ds → RepAt h bk o us → ds.length = k ∧ ∃ vs : List Value, vs.length = k ∧ RepDs h ds vs ∧ ∀ (j : Nat) v, vs[j]? = some v → h bk (o + j) = some v
  | 0, us, ds, o, e, r => by cases e; exact ⟨rfl, [], rfl, rfl, fun j v hv => by cases hv⟩
  | k + 1, [], ds, o, e, r => by cases e
  | k + 1, u :: us, ds, o, e, r => by
    obtain ⟨⟨v, hv, hr⟩, r2⟩ := r
    simp only [takeD] at e
    cases h2 : takeD k us with
    | none => rw [h2] at e; cases e
    | some ys =>
      rw [h2] at e
      cases e
      obtain ⟨g1, vs, g2, g3, g4⟩ := takeD_rep h2 r2
      refine ⟨by simp [g1], v :: vs, by simp [g2], ⟨v, vs, rfl, hr, g3⟩, fun j u hu => ?_⟩
      cases j with
      | zero => simp at hu; subst hu; exact hv
      | succ j => rw [show o + (j + 1) = o + 1 + j by omega]; exact g4 j u (by simpa using hu)
theorem isRow_of {ti : TI} {tq : Nat} (h : TIok P tq ti) (hk : isAgg ti.k = true) : ∃ d, P.underlying tq = some d ∧ d.isRow = true := by
  have := h.kind
  cases hq : ti.k with
  | sc => rw [hq] at hk; cases hk
  | sl _ _ _ => rw [hq] at hk; cases hk
  | agg fs => rw [hq] at this; obtain ⟨fields, hu, _⟩ := this; exact ⟨_, hu, rfl⟩
  | arr e len => rw [hq] at this; exact ⟨_, this, rfl⟩
theorem notRow_of {ti : TI} {tq : Nat} (h : TIok P tq ti) (hk : isAgg ti.k = false) : ∃ d, P.underlying tq = some d ∧ d.isRow = false ∧ ti.n = 1 := by
  have := h.kind
  cases hq : ti.k with
  | sc => rw [hq] at this; obtain ⟨d, hu, hr, hn, _⟩ := this; exact ⟨d, hu, hr, hn⟩
  | sl _ _ _ => rw [hq] at this; exact ⟨_, this.1, rfl, this.2.1⟩
  | agg fs => rw [hq] at hk; cases hk
  | arr e len => rw [hq] at hk; cases hk
theorem isAgg_run {tq : Nat} {d : TypeDesc} (h : P.underlying tq = some d) : (Go.isAgg tq).run P w = .ok d.isRow w := by
  unfold Go.isAgg
  rw [Sem.run_bind, run_underlying h w]
  cases d <;> rfl
theorem run_load_one {tq : Nat} {d : TypeDesc} {bk o : Nat} {v : Value} (h : P.underlying tq = some d) (hd : d.isRow = false) (hc : w.cell? ⟨bk, o, none⟩ = some v) : (Instr.loadAt tq (.pointer (some ⟨bk, o, none⟩))).run P w = .ok v w := by
  simp only [Instr.loadAt, Instr.sureAddr, loadVar]
  rw [Sem.run_bind]
  show Result.andThen (.ok _ w) _ = _
  rw [Result.andThen_ok, Sem.run_bind, isAgg_run h, hd]
  simp [load, Sem.run, hc]
theorem run_load_row {tq : Nat} {d : TypeDesc} {bk o : Nat} {cs : List Value} (h : P.underlying tq = some d) (hd : d.isRow = true) (hi : (P.info? tq).map (·.size) = some cs.length) (hc : w.rangeAt bk o cs) : (Instr.loadAt tq (.pointer (some ⟨bk, o, none⟩))).run P w = .ok (.agg cs.toArray) w := by
  simp only [Instr.loadAt, Instr.sureAddr]
  rw [Sem.run_bind]
  show Result.andThen (.ok _ w) _ = _
  rw [Result.andThen_ok]
  exact run_loadVar_mid w bk o tq cs d hc h hd hi
theorem info_size {ti : TI} {tq : Nat} (h : TIok P tq ti) : (P.info? tq).map (·.size) = some ti.n := by
  obtain ⟨i, z, hi, hs, _⟩ := h.info
  simp [hi, hs]
theorem loadV_rep (htt : TTok P tt) (S : WSim I B0 M x b w) {tq : Nat} {ti : TI} {i off : Nat} {cs : List V} {u : V} (ht : TT.get tt tq = some ti) (hb : getB b i = some cs) (h : loadV ti (cs.drop off) = some u) :
    ∃ v, (Instr.loadAt tq (.pointer (some ⟨x.ρ i, off, none⟩))).run P w = .ok v w ∧ RepV x u v := by
  obtain ⟨_, _, ws, wt, hw, hr⟩ := S.box i cs hb
  have hcell : ∀ (j : Nat) v, (ws.toList.drop off)[j]? = some v → w.cell? ⟨x.ρ i, off + j, none⟩ = some v := fun j v hv => by
    rw [List.getElem?_drop, Array.getElem?_toList] at hv
    simp [World.cell?, hw, hv]
  have hrd := hr.drop off
  cases hk : isAgg ti.k with
  | true =>
    obtain ⟨d, hu, hd⟩ := isRow_of (htt _ _ ht) hk
    have h' : ∃ ds, takeV ti.n (cs.drop off) = some ds ∧ u = .agg ds := by
      unfold loadV at h
      cases hq : ti.k <;> rw [hq] at hk h <;> first | (cases hk; done) | skip
      all_goals
        simp only at h
        cases hv : takeV ti.n (cs.drop off) with
        | none => rw [hv] at h; cases h
        | some ds => rw [hv] at h; cases h; exact ⟨ds, rfl, rfl⟩
    obtain ⟨ds, h1, rfl⟩ := h'
    obtain ⟨g1, g2, g3⟩ := takeV_rep h1 hrd
    refine ⟨.agg ((ws.toList.drop off).take ti.n).toArray, run_load_row hu hd ?_ (fun j v hv => ?_), ⟨_, rfl, by simpa using g2⟩⟩
    · rw [info_size (htt _ _ ht), List.length_take, Nat.min_eq_left g3]
    · refine hcell j v ?_
      rw [List.getElem?_take] at hv
      split at hv
      · exact hv
      · cases hv
  | false =>
    obtain ⟨d, hu, hd, _⟩ := notRow_of (htt _ _ ht) hk
    have h' : ∃ r, cs.drop off = u :: r := by
      unfold loadV at h
      cases hq : ti.k <;> rw [hq] at hk h <;> first | (cases hk; done) | skip
      all_goals
        simp only at h
        cases hv : cs.drop off with
        | nil => rw [hv] at h; cases h
        | cons y r => rw [hv] at h; cases h; exact ⟨r, rfl⟩
    obtain ⟨rest, h1⟩ := h'
    rw [h1] at hrd
    obtain ⟨v, l0, hv, r1, _⟩ := hrd
    exact ⟨v, run_load_one hu hd (hcell 0 v (by rw [hv]; rfl)), r1⟩
theorem loadD_rep (htt : TTok P tt) (S : WSim I B0 M x b w) {tq : Nat} {ti : TI} {bk off : Nat} {cs : List D} {u : V} (ht : TT.get tt tq = some ti) (hb : RepAt x.h bk off cs) (h : loadD ti cs = some u) :
    ∃ v, (Instr.loadAt tq (.pointer (some ⟨bk, off, none⟩))).run P w = .ok v w ∧ RepV x u v := by
  cases hk : isAgg ti.k with
  | true =>
    obtain ⟨d, hu, hd⟩ := isRow_of (htt _ _ ht) hk
    have h' : ∃ ds, takeD ti.n cs = some ds ∧ u = .agg ds := by
      unfold loadD at h
      cases hq : ti.k <;> rw [hq] at hk h <;> first | (cases hk; done) | skip
      all_goals
        simp only at h
        cases hv : takeD ti.n cs with
        | none => rw [hv] at h; cases h
        | some ds => rw [hv] at h; cases h; exact ⟨ds, rfl, rfl⟩
    obtain ⟨ds, h1, rfl⟩ := h'
    obtain ⟨g1, vs, g2, g3, g4⟩ := takeD_rep h1 hb
    refine ⟨.agg vs.toArray, run_load_row hu hd ?_ (fun j v hv => S.agree _ _ _ (g4 j v hv)), ⟨_, rfl, by simpa using g3⟩⟩
    rw [info_size (htt _ _ ht), g2]
  | false =>
    obtain ⟨d, hu, hd, _⟩ := notRow_of (htt _ _ ht) hk
    have h' : ∃ y r, cs = y :: r ∧ u = .d y := by
      unfold loadD at h
      cases hq : ti.k <;> rw [hq] at hk h <;> first | (cases hk; done) | skip
      all_goals
        simp only at h
        cases cs with
        | nil => cases h
        | cons y r => cases h; exact ⟨y, r, rfl, rfl⟩
    obtain ⟨y, rest, rfl, rfl⟩ := h'
    obtain ⟨⟨v, hv, hr⟩, _⟩ := hb
    exact ⟨v, run_load_one hu hd (S.agree _ _ _ hv), hr⟩
theorem op_load (htt : TTok P tt) (S : Sim I B0 M nt x t b a w) (tq : TypeId) (y : Operand) (h : DenN P tt X n Res (opEff tt ⟨dst, .load tq y, ty, pos, after, guard⟩ (St.ev ⟨t, b⟩) (getB b)) r) : OpOK I B0 M P ⟨dst, .load tq y, ty, pos, after, guard⟩ a x b w r := by
  have hy := S.ev y
  simp only [opEff] at h
  have fin : ∀ u v, (Instr.loadAt tq (a.eval y)).run P w = .ok v w → RepV x u v → DenN P tt X n Res (val u) r → OpOK I B0 M P ⟨dst, .load tq y, ty, pos, after, guard⟩ a x b w r := by
    intro u v h1 h2 h3
    refine OpOK.pure S (den_val h3) ?_ h2
    simp only [execOp]; rw [Sem.run_bind, h1]; rfl
  split at h
  · rename_i ti i off e1 e2
    rw [e2] at hy
    have hp : a.eval y = _ := hy
    split at h
    · rename_i cs e3
      split at h
      · rename_i u e4
        obtain ⟨v, g1, g2⟩ := loadV_rep htt S.ws e1 e3 e4
        exact fin u v (by rw [hp]; exact g1) g2 h
      · exact (den_fail h).elim
    · exact (den_fail h).elim
  · rename_i ti ds e1 e2
    rw [e2] at hy
    obtain ⟨bk, off, hp, hq⟩ := hy
    split at h
    · rename_i u e4
      obtain ⟨v, g1, g2⟩ := loadD_rep htt S.ws e1 hq e4
      exact fin u v (by rw [hp]; exact g1) g2 h
    · exact (den_fail h).elim
  · exact (den_fail h).elim
theorem RepDs.get {h : H} {us : List D} : ∀ {l : List Value} {i : Nat} {u : D}, RepDs h us l → us[i]? = some u → ∃ v, l[i]? = some v ∧ RepD h v u := by
  induction us with
  | nil => intro l i u _ hu; cases hu
  | cons u0 us ih =>
    intro l i u hr hu
    obtain ⟨v0, l0, rfl, h1, h2⟩ := hr
    cases i with
    | zero => simp at hu; subst hu; exact ⟨v0, rfl, h1⟩
    | succ i => obtain ⟨v, g1, g2⟩ := ih h2 (by simpa using hu : us[i]? = some u); exact ⟨v, by simpa using g1, g2⟩
theorem RepDs.drop {h : H} {us : List D} : ∀ {l : List Value} (k : Nat), RepDs h us l → RepDs h (us.drop k) (l.drop k) := by
  induction us with
  | nil => intro l k h; have : l = [] := h; subst this; simp [RepDs]
  | cons u us ih =>
    intro l k h
    obtain ⟨v, l0, rfl, h1, h2⟩ := h
    cases k with
    | zero => exact ⟨v, l0, rfl, h1, h2⟩
    | succ k => exact ih k h2
theorem takeD_reps {h : H} : ∀ {k : Nat} {us ds : List D} {l : List Value}, takeD k us = some ds → RepDs h us l → ds.length = k ∧ RepDs h ds (l.take k) ∧ k ≤ l.length
  | 0, us, ds, l, e, r => by cases e; simp [RepDs]
  | k + 1, [], ds, l, e, r => by cases e
  | k + 1, u :: us, ds, l, e, r => by
    obtain ⟨v, l0, rfl, r1, r2⟩ := r
    simp only [takeD] at e
    cases h2 : takeD k us with
    | none => rw [h2] at e; cases e
    | some ys =>
      rw [h2] at e
      cases e
      obtain ⟨g1, g2, g3⟩ := takeD_reps h2 r2
      exact ⟨by simp [g1], ⟨v, l0.take k, rfl, r1, g2⟩, by simp; omega⟩
/-- a part of a struct's cells -/
theorem part_rep (htt : TTok P tt) {tq : Nat} {ti : TI} {off : Nat} {cs : List D} {u : V} {vs : Array Value} {h : H} (ht : TT.get tt tq = some ti) (hb : RepDs h cs vs.toList) (e : loadD ti (cs.drop off) = some u) (hx : x.h = h) :
    ∃ v, (part tq vs off).run P w = .ok v w ∧ RepV x u v := by
  subst hx
  have hrd := hb.drop off
  unfold part
  rw [Sem.run_bind]
  cases hk : isAgg ti.k with
  | true =>
    obtain ⟨d, hu, hd⟩ := isRow_of (htt _ _ ht) hk
    have h' : ∃ ds, takeD ti.n (cs.drop off) = some ds ∧ u = .agg ds := by
      unfold loadD at e
      cases hq : ti.k <;> rw [hq] at hk e <;> first | (cases hk; done) | skip
      all_goals
        simp only at e
        cases hv : takeD ti.n (cs.drop off) with
        | none => rw [hv] at e; cases e
        | some ds => rw [hv] at e; cases e; exact ⟨ds, rfl, rfl⟩
    obtain ⟨ds, h1, rfl⟩ := h'
    obtain ⟨g1, g2, g3⟩ := takeD_reps h1 hrd
    obtain ⟨i, z, hi, hs, _⟩ := (htt _ _ ht).info
    refine ⟨.agg (vs.extract off (off + ti.n)), ?_, ⟨_, rfl, ?_⟩⟩
    · rw [isAgg_run hu, hd]
      simp [sizeOf, typeInfo, hi, hs]
    · rw [Array.toList_extract, List.extract_eq_take_drop]
      rwa [show off + ti.n - off = ti.n by omega]
  | false =>
    obtain ⟨d, hu, hd, _⟩ := notRow_of (htt _ _ ht) hk
    have h' : ∃ y r, cs.drop off = y :: r ∧ u = .d y := by
      unfold loadD at e
      cases hq : ti.k <;> rw [hq] at hk e <;> first | (cases hk; done) | skip
      all_goals
        simp only at e
        cases hv : cs.drop off with
        | nil => rw [hv] at e; cases e
        | cons y r => rw [hv] at e; cases e; exact ⟨y, r, rfl, rfl⟩
    obtain ⟨y, rest, h1, rfl⟩ := h'
    rw [h1] at hrd
    obtain ⟨v, l0, hv, r1, _⟩ := hrd
    refine ⟨v, ?_, r1⟩
    have hv' : vs[off]? = some v := by
      rw [← Array.getElem?_toList]
      have := congrArg (·[0]?) hv
      simpa using this
    rw [isAgg_run hu, hd]
    simp [hv']
theorem op_field (htt : TTok P tt) (S : Sim I B0 M nt x t b a w) (tq : TypeId) (y : Operand) (f : Nat) (h : DenN P tt X n Res (opEff tt ⟨dst, .field tq y f, ty, pos, after, guard⟩ (St.ev ⟨t, b⟩) (getB b)) r) : OpOK I B0 M P ⟨dst, .field tq y f, ty, pos, after, guard⟩ a x b w r := by
  have hy := S.ev y
  simp only [opEff] at h
  split at h
  · rename_i e1 e2
    rw [e2] at hy
    obtain ⟨vs, hp, hq⟩ := hy
    obtain ⟨fields, hu, rfl, _, _⟩ := (htt _ _ e1).kind
    split at h
    · rename_i off ft e3
      rw [List.getElem?_map, Array.getElem?_toList] at e3
      cases hf : fields[f]? with
      | none => rw [hf] at e3; cases e3
      | some fl =>
        rw [hf] at e3
        simp only [Option.map_some, Option.some.injEq, Prod.mk.injEq] at e3
        obtain ⟨rfl, rfl⟩ := e3
        split at h
        · rename_i ti e4
          split at h
          · rename_i u e5
            obtain ⟨v, g1, g2⟩ := part_rep (w := w) (x := x) htt e4 hq e5 rfl
            refine OpOK.pure S (den_val h) ?_ g2
            simp only [execOp, hp]
            rw [Sem.run_bind]
            have : (Instr.field tq (.agg vs) f).run P w = .ok v w := by
              simp [Instr.field, run_underlying hu, hf, asAgg, g1]
            rw [this]; rfl
          · exact (den_fail h).elim
        · exact (den_fail h).elim
    · exact (den_fail h).elim
  · exact (den_fail h).elim
theorem bt_get (s : ByteArray) (j : Int) (h0 : 0 ≤ j) (h1 : j < s.size) : (s[j.toNat]?).map (fun c => (c.toNat : Int)) = some (bt s j) := by
  unfold bt
  have : j.toNat < s.size := by omega
  rw [dif_pos this, ByteArray.getElem?_lt' s _ this]
  rfl
theorem op_index (htt : TTok P tt) (S : Sim I B0 M nt x t b a w) (tq : TypeId) (y z : Operand) (h : DenN P tt X n Res (opEff tt ⟨dst, .index tq y z, ty, pos, after, guard⟩ (St.ev ⟨t, b⟩) (getB b)) r) : OpOK I B0 M P ⟨dst, .index tq y z, ty, pos, after, guard⟩ a x b w r := by
  have hy := S.ev y
  have hz := S.ev z
  simp only [opEff] at h
  split at h
  · rename_i n1 q cmp s j e1 e2 e3
    rw [e2] at hy
    obtain ⟨k, hk⟩ := intOf_rep e3 hz
    obtain ⟨d, hu, _, _, _, hs, _⟩ := (htt _ _ e1).kind
    obtain rfl := hs _ rfl
    obtain ⟨⟨h0, h1⟩, h2⟩ := den_asrt h
    refine OpOK.pure S (v := .int .u8 (bt s j)) (den_val h2) ?_ (RepD.int _ _)
    have hlt : j.toNat < s.size := by omega
    have hg : s[j.toNat]? = some s[j.toNat] := ByteArray.getElem?_lt' s _ hlt
    have hb : bt s j = (s[j.toNat].toNat : Int) := by unfold bt; rw [dif_pos hlt]
    have : (Instr.index tq (.string s) (.int k j)).run P w = .ok (.int .u8 (bt s j)) w := by
      simp [Instr.index, asIntOf, run_underlying hu, h0, hg, hb]
    simp only [execOp, hy.str, hk]
    rw [Sem.run_bind, this]; rfl
  · rename_i e len n1 zero cmp xs j e1 e2 e3
    rw [e2] at hy
    obtain ⟨cs, hp, hq⟩ := hy
    obtain ⟨k, hk⟩ := intOf_rep e3 hz
    have hu : P.underlying tq = some (.array len e) := (htt _ _ e1).kind
    split at h
    · rename_i zt ct e4
      obtain ⟨c, h0, h1, h2⟩ := den_idx h
      split at h2
      · rename_i y0 e5
        rw [List.getElem?_map] at h1
        cases hx : xs[j.toNat]? with
        | none => rw [hx] at h1; cases h1
        | some y1 =>
          rw [hx] at h1
          simp only [Option.map_some, Option.some.injEq, List.cons.injEq, and_true] at h1
          subst h1
          obtain ⟨v, hv, hr⟩ := hq.get hx
          have hv' : cs[j.toNat]? = some v := by rw [← Array.getElem?_toList]; exact hv
          have hlt : j.toNat < xs.length := (List.getElem?_eq_some_iff.1 hx).1
          have hle := Nat.eq_of_beq_eq_true e5
          obtain ⟨d, hue, hrow, _⟩ := notRow_of (htt _ _ e4) rfl
          obtain ⟨i, zz, hi, hs, _⟩ := (htt _ _ e4).info
          refine OpOK.pure S (v := v) (den_val h2) ?_ hr
          have hj : (if 0 ≤ j ∧ j < (len : Int) then True else False) := by rw [if_pos ⟨h0, by omega⟩]; trivial
          have : (Instr.index tq (.agg cs) (.int k j)).run P w = .ok v w := by
            have hpart : (part e cs (j.toNat * i.size)).run P w = .ok v w := by
              unfold part
              rw [Sem.run_bind, isAgg_run hue, hrow]
              have hs1 : i.size = 1 := hs
              simp [hs1, hv']
            simp only [Instr.index, asIntOf]
            simp [run_underlying hu, h0, show j < (len : Int) by omega, sizeOf, typeInfo, hi, hpart]
          simp only [execOp, hp, hk]
          rw [Sem.run_bind, this]; rfl
      · exact (den_fail h2).elim
    · exact (den_fail h).elim
  · exact (den_fail h).elim
end
end Go.Proofs.YtaddhpeainliiaaGreatDoor.Id
