/- Texts of this repo, bundled: DenCut, PaG, PaRd, PaRe, PaEx, IdealX, PaRow, PaLine, PaPrim, PaStmt, PaBlock, PaFunc, PaMod, PaRead, PaReadB, PaReadC, PaTop, PaTopB, PaFed, PaEnd, PaOut, DenExt, DenApp, PaCut, PaNx, PaFirst, PaFuel, PaAwake, PaAwakeB, PaRightA. -/
import Derived.Test.YtacfbgfphkfobaaGreatDoorBunParseRightsb
import Derived.Tactics2
import Derived.Defers
import Derived.Recover
/-! ## DenCut -/
namespace Go.Proofs.YtacfbgfphkfobaaGreatDoor.Id
open Go
set_option linter.unusedVariables false
set_option linter.unusedSimpArgs false
theorem tw_cut (p : UInt8 → Bool) : ∀ (l : List UInt8) (m : Nat), (l.takeWhile p).length ≤ m → (l.take m).takeWhile p = l.takeWhile p
  | [], m, _ => by simp
  | c :: r, 0, h => by
    rw [List.takeWhile_cons] at h ⊢
    cases hc : p c with
    | true => rw [hc] at h; simp at h
    | false => simp
  | c :: r, m + 1, h => by
    rw [List.take_succ_cons, List.takeWhile_cons, List.takeWhile_cons]
    rw [List.takeWhile_cons] at h
    cases hc : p c with
    | true =>
      rw [hc] at h
      simp only [if_true, List.length_cons] at h
      rw [if_pos rfl, if_pos rfl, tw_cut p r m (by omega)]
    | false => rfl
theorem pc_cut {l : List UInt8} {b : UInt8} {n m : Nat} (h : pc l = some (b, n)) (hm : n ≤ m) : pc (l.take m) = some (b, n) := by
  cases l with
  | nil => cases h
  | cons c r =>
    have hp := (pc_pos h).1
    obtain ⟨m, rfl⟩ : ∃ m', m = m' + 1 := ⟨m - 1, by omega⟩
    rw [List.take_succ_cons]
    simp only [pc] at h ⊢
    by_cases h1 : c.toNat = 92
    · rw [if_pos h1] at h ⊢
      cases r with
      | nil => cases h
      | cons d r =>
        simp only at h
        by_cases d1 : d.toNat = 110
        · rw [if_pos d1] at h
          have h0 := h
          injection h with h'; injection h' with _ h3
          obtain ⟨m, rfl⟩ : ∃ m', m = m' + 1 := ⟨m - 1, by omega⟩
          rw [List.take_succ_cons]; simp only; rw [if_pos d1]; exact h0
        rw [if_neg d1] at h
        by_cases d2 : d.toNat = 116
        · rw [if_pos d2] at h
          have h0 := h
          injection h with h'; injection h' with _ h3
          obtain ⟨m, rfl⟩ : ∃ m', m = m' + 1 := ⟨m - 1, by omega⟩
          rw [List.take_succ_cons]; simp only; rw [if_neg d1, if_pos d2]; exact h0
        rw [if_neg d2] at h
        by_cases d3 : d.toNat = 34 ∨ d.toNat = 92
        · rw [if_pos d3] at h
          have h0 := h
          injection h with h'; injection h' with _ h3
          obtain ⟨m, rfl⟩ : ∃ m', m = m' + 1 := ⟨m - 1, by omega⟩
          rw [List.take_succ_cons]; simp only; rw [if_neg d1, if_neg d2, if_pos d3]; exact h0
        rw [if_neg d3] at h
        by_cases d4 : d.toNat = 120
        · rw [if_pos d4] at h
          match r, h with
          | [], h => cases h
          | [a], h => cases h
          | a :: b' :: r, h =>
            have h0 := h
            simp only at h
            split at h
            · injection h with h'; injection h' with _ h3
              obtain ⟨m, rfl⟩ : ∃ m', m = m' + 3 := ⟨m - 3, by omega⟩
              rw [List.take_succ_cons, List.take_succ_cons, List.take_succ_cons]
              simp only
              rw [if_neg d1, if_neg d2, if_neg d3, if_pos d4]; exact h0
            · cases h
        · rw [if_neg d4] at h; cases h
    · rw [if_neg h1] at h ⊢; exact h
theorem ql_cut : ∀ (f : Nat) (l t : List UInt8) (q m : Nat), ql f l = some (t, q) → q ≤ m → ql f (l.take m) = some (t, q)
  | 0, l, t, q, m, h, _ => by cases h
  | f + 1, [], t, q, m, h, _ => by cases h
  | f + 1, c :: r, t, q, m, h, hm => by
    have hq := ql_le _ _ _ _ h
    obtain ⟨m, rfl⟩ : ∃ m', m = m' + 1 := ⟨m - 1, by omega⟩
    rw [List.take_succ_cons]
    unfold ql at h ⊢
    by_cases h1 : c.toNat = 34
    · rw [if_pos h1] at h ⊢; exact h
    rw [if_neg h1] at h ⊢
    cases hp : pc (c :: r) with
    | none => rw [hp] at h; cases h
    | some z =>
      obtain ⟨b, n⟩ := z
      rw [hp] at h
      simp only at h
      cases hx : ql f ((c :: r).drop n) with
      | none => rw [hx] at h; cases h
      | some z =>
        obtain ⟨t', q'⟩ := z
        rw [hx] at h
        simp only at h
        injection h with h'; injection h' with h1' h2'
        have hp' := pc_cut (m := m + 1) hp (by omega)
        rw [List.take_succ_cons] at hp'
        rw [hp']
        simp only
        have ih := ql_cut f _ t' q' (m + 1 - n) hx (by omega)
        have e : (c :: r.take m).drop n = ((c :: r).drop n).take (m + 1 - n) := by
          rw [← List.take_succ_cons, List.drop_take]
        rw [e, ih]
        simp only
        rw [h1', h2']
theorem quo_cut {r t : List UInt8} {n m : Nat} (h : quo r = some (t, n)) (hm : n ≤ m + 1) : quo (r.take m) = some (t, n) := by
  unfold quo at h ⊢
  cases hx : ql (r.length + 1) r with
  | none => rw [hx] at h; cases h
  | some z =>
    obtain ⟨t', q⟩ := z
    rw [hx] at h
    simp only at h
    split at h
    · rename_i hle
      injection h with h'; injection h' with h1 h2
      have hc := ql_cut _ _ _ _ m hx (by omega)
      rw [ql_fuel (r.length + 1) ((r.take m).length + 1) (r.take m) (by rw [List.length_take]; omega) (by omega)] at hc
      rw [hc]
      simp only
      rw [if_pos hle, h1, h2]
    · cases h
theorem tok_cut (l : List UInt8) (m : Nat) (h : (tok l).2.2 = 0) (hm : (tok l).2.1 ≤ m) : tok (l.take m) = tok l := by
  have hpos := (tok_ok l h).1
  cases l with
  | nil => cases h
  | cons c r =>
    obtain ⟨m, rfl⟩ : ∃ m', m = m' + 1 := ⟨m - 1, by omega⟩
    rw [List.take_succ_cons]
    show tokC c (r.take m) = tokC c r
    change (tokC c r).2.2 = 0 at h
    change (tokC c r).2.1 ≤ m + 1 at hm
    have et : c :: r.take m = (c :: r).take (m + 1) := by rw [List.take_succ_cons]
    unfold tokC at h hm ⊢
    rw [et]
    by_cases h1 : isL c = true
    · rw [if_pos h1] at h hm ⊢
      rw [if_pos h1]
      have hle : ((c :: r).takeWhile isW).length ≤ m + 1 := by
        by_cases h2 : 32 < ((c :: r).takeWhile isW).length
        · rw [if_pos h2] at h; cases h
        rw [if_neg h2] at hm
        split at hm <;> exact hm
      rw [tw_cut isW _ _ hle, List.take_take, Nat.min_eq_left hle]
    rw [if_neg h1] at h hm ⊢
    rw [if_neg h1]
    by_cases h2 : isD c = true
    · rw [if_pos h2] at h hm ⊢
      rw [if_pos h2]
      by_cases h3 : (numOk ((c :: r).take ((c :: r).takeWhile isD).length) && !headL ((c :: r).drop ((c :: r).takeWhile isD).length)) = true
      · rw [if_pos h3] at hm ⊢
        simp only at hm
        rw [tw_cut isD _ _ hm, List.take_take, Nat.min_eq_left hm]
        generalize ((c :: r).takeWhile isD).length = n at *
        rw [Bool.and_eq_true] at h3
        have hh : headL (((c :: r).take (m + 1)).drop n) = false := by
          rw [List.drop_take]
          have h4 := h3.2
          cases hd : (c :: r).drop n with
          | nil => simp [headL]
          | cons d u =>
            rw [hd] at h4
            simp only [headL, Bool.not_eq_true'] at h4
            cases m + 1 - n with
            | zero => simp [headL]
            | succ q => rw [List.take_succ_cons]; simp only [headL]; exact h4
        rw [hh, h3.1]; rfl
      · rw [if_neg h3] at h; cases h
    rw [if_neg h2] at h hm ⊢
    rw [if_neg h2]
    by_cases h3 : c.toNat = 34
    · rw [if_pos h3] at h hm ⊢
      rw [if_pos h3]
      cases hq : quo r with
      | none => rw [hq] at h; cases h
      | some z =>
        obtain ⟨t, n⟩ := z
        rw [hq] at hm
        rw [quo_cut hq hm]
    rw [if_neg h3] at h hm ⊢
    rw [if_neg h3]
    by_cases h4 : sgn (c :: r) = 0
    · rw [if_pos h4] at h; cases h
    rw [if_neg h4] at hm ⊢
    have e : sgn ((c :: r).take (m + 1)) = sgn (c :: r) := by
      simp only at hm
      unfold sgn at hm h4 ⊢
      by_cases ht : (c :: r).take 2 ∈ twoSigns
      · rw [if_pos ht] at hm ⊢
        rw [List.take_take, Nat.min_eq_left hm, if_pos ht]
      · rw [if_neg ht] at hm h4 ⊢
        have ht2 : ¬ ((c :: r).take (m + 1)).take 2 ∈ twoSigns := by
          rw [List.take_take]
          intro hx
          have := two_len _ hx
          rw [List.length_take] at this
          have hmin : min 2 (m + 1) = 2 := by omega
          rw [hmin] at hx; exact ht hx
        rw [if_neg ht2, List.take_succ_cons]
    rw [e, if_neg h4]

/-! ### what the tokens are -/
theorem nx_fr (l : List UInt8) (i : Nat) : (nx l i).2.1 = i + gapL false (l.drop i) := by
  unfold nx
  split
  · rename_i h; exact h.symm
  · split <;> rfl
theorem nx_end (l : List UInt8) (i : Nat) (he : (nx l i).2.2.2 = 0) (hk : (nx l i).1 = 0) : (nx l i).2.1 = l.length ∧ (nx l i).2.2.1 = l.length := by
  unfold nx at *
  by_cases h : i + gapL false (l.drop i) = l.length
  · rw [if_pos h]; exact ⟨rfl, rfl⟩
  rw [if_neg h] at he hk
  by_cases h2 : (tok (l.drop (i + gapL false (l.drop i)))).2.2 = 0
  · rw [if_pos h2] at hk
    have := (tok_ok _ h2).2.1
    simp only at hk; omega
  · rw [if_neg h2] at he; exact absurd he h2
theorem nx_tok (l : List UInt8) (i : Nat) (he : (nx l i).2.2.2 = 0) (hk : (nx l i).1 ≠ 0) :
    gapL false (l.drop (nx l i).2.1) = 0 ∧ (nx l i).2.1 < (nx l i).2.2.1 ∧ tok (l.drop (nx l i).2.1) = ((nx l i).1, (nx l i).2.2.1 - (nx l i).2.1, 0) := by
  have hga := gapL_after (l.drop i) false
  rw [List.drop_drop] at hga
  unfold nx at *
  generalize i + gapL false (l.drop i) = g at *
  by_cases h : g = l.length
  · rw [if_pos h] at hk; exact absurd rfl hk
  rw [if_neg h] at he hk ⊢
  by_cases h2 : (tok (l.drop g)).2.2 = 0
  · rw [if_pos h2]
    have h3 := (tok_ok _ h2).1
    refine ⟨hga, by simp only; omega, ?_⟩
    simp only
    generalize tok (l.drop g) = z at *
    obtain ⟨z1, z2, z3⟩ := z
    simp only at h2 h3 ⊢
    subst h2
    simp
  · rw [if_neg h2] at he; exact absurd he h2
theorem nx_cut (l : List UInt8) (i p : Nat) (hp : p ≤ l.length) (he : (nx l i).2.2.2 = 0) (hk : (nx l i).1 ≠ 0) (hb : (nx l i).2.2.1 ≤ p) (hi : i ≤ l.length) : nx (l.take p) i = nx l i := by
  have h1 := nx_fr l i
  obtain ⟨h2, h3, h4⟩ := nx_tok l i he hk
  have hlen : (l.take p).length = p := by rw [List.length_take]; omega
  have hg : gapL false ((l.take p).drop i) = gapL false (l.drop i) := by
    rw [List.drop_take]; exact gapL_cut _ _ _ (by omega)
  have ht : tok ((l.take p).drop (i + gapL false (l.drop i))) = tok (l.drop (i + gapL false (l.drop i))) := by
    rw [← h1, List.drop_take]
    exact tok_cut _ _ (by rw [h4]) (by rw [h4]; simp only; omega)
  have hne : ¬ i + gapL false (l.drop i) = l.length := by
    have := (nx_adv l i hi he hk).2.2; omega
  have : ¬ i + gapL false (l.drop i) = p := by omega
  unfold nx
  rw [hg, ht, hlen, if_neg hne, if_neg this]
theorem tok_self (l : List UInt8) (h : (tok l).2.2 = 0) : tok (l.take (tok l).2.1) = tok l := tok_cut l _ h (Nat.le_refl _)
end Go.Proofs.YtacfbgfphkfobaaGreatDoor.Id
/-! ## PaG -/
namespace Go.Proofs.YtacfbgfphkfobaaGreatDoor.Id
open Go
set_option linter.unusedVariables false
set_option linter.unusedSimpArgs false
structure Tk where
  k : Nat
  a : Nat
  s : ByteArray
inductive Rs (α : Type) where
  | ok (x : α) (l : List Tk)
  | more
  | err (e : Nat) (l : List Tk)
  | out
def Rs.bind {α β : Type} : Rs α → (α → List Tk → Rs β) → Rs β
  | .ok x l, f => f x l
  | .more, _ => .more
  | .err e l, _ => .err e l
  | .out, _ => .out
inductive Gr (α : Type) where
  | ret (x : α)
  | look (f : Tk → Gr α)
  | next (g : Gr α)
  | err (e : Nat)
  | out
def Gr.bind {α β : Type} : Gr α → (α → Gr β) → Gr β
  | .ret x, f => f x
  | .look g, f => .look fun t => (g t).bind f
  | .next g, f => .next (g.bind f)
  | .err e, _ => .err e
  | .out, _ => .out
def runG {α : Type} : Gr α → List Tk → Rs α
  | .ret x, l => .ok x l
  | .look _, [] => .more
  | .look f, t :: r => runG (f t) (t :: r)
  | .next g, _ :: u :: r => runG g (u :: r)
  | .next _, _ => .more
  | .err e, l => .err e l
  | .out, _ => .out
theorem runG_bind {α β : Type} (p : Gr α) (f : α → Gr β) : ∀ l, runG (p.bind f) l = (runG p l).bind fun x r => runG (f x) r := by
  induction p with
  | ret x => intro l; rfl
  | look g ih =>
    intro l
    cases l with
    | nil => rfl
    | cons t r => exact ih t (t :: r)
  | next g ih =>
    intro l
    match l with
    | [] => rfl
    | [t] => rfl
    | t :: u :: r => exact ih (u :: r)
  | err e => intro l; rfl
  | out => intro l; rfl
def Rs.ext {α : Type} (x : List Tk) : Rs α → Rs α
  | .ok a r => .ok a (r ++ x)
  | .err e r => .err e (r ++ x)
  | r => r
theorem runG_app {α : Type} (p : Gr α) : ∀ (l x : List Tk), runG p l ≠ .more → runG p (l ++ x) = (runG p l).ext x := by
  induction p with
  | ret a => intro l x _; rfl
  | look g ih =>
    intro l x h
    cases l with
    | nil => exact absurd rfl h
    | cons t r => exact ih t (t :: r) x h
  | next g ih =>
    intro l x h
    match l with
    | [] => exact absurd rfl h
    | [t] => exact absurd rfl h
    | t :: u :: r => exact ih (u :: r) x h
  | err e => intro l x h; rfl
  | out => intro l x h; rfl
def isT (t : Tk) (x : ByteArray) : Bool := (decide (t.k = 5) || decide (t.k = 4)) && decide (t.s = x)
def isAny (t : Tk) (xs : List ByteArray) : Bool := (decide (t.k = 5) || decide (t.k = 4)) && xs.any fun x => decide (t.s = x)
def gMust (x : ByteArray) : Gr Nat := .look fun t => match isT t x with | true => .next (.ret t.a) | false => .err 140
def gOf (k : Nat) : Gr (ByteArray × Nat) := .look fun t => match decide (t.k = k) with | true => .next (.ret (t.s, t.a)) | false => .err 140
def gOpen (x : ByteArray) (d : Nat) : Gr Unit := .look fun t => match isT t x with
  | true => match decide (64 ≤ d) with
    | true => .err 141
    | false => .next (.ret ())
  | false => .err 140
/-- is this next? -/
def gIs (x : ByteArray) : Gr Bool := .look fun t => .ret (isT t x)
/-- a comma, ahead of all but the first -/
def gSep (n : Nat) : Gr Unit := match decide (0 < n) with
  | true => (gMust (mkB [44])).bind fun _ => .ret ()
  | false => .ret ()
theorem gr_assoc {α β γ : Type} (p : Gr α) (f : α → Gr β) (g : β → Gr γ) : (p.bind f).bind g = p.bind fun x => (f x).bind g := by
  induction p with
  | ret x => rfl
  | look k ih => simp only [Gr.bind]; congr 1; funext t; exact ih t
  | next k ih => simp only [Gr.bind]; rw [ih]
  | err e => rfl
  | out => rfl
theorem gSep_pos {β : Type} {n : Nat} (h : 0 < n) (g : Unit → Gr β) : (gSep n).bind g = (gMust (mkB [44])).bind fun _ => g () := by
  unfold gSep
  rw [decide_eq_true h]
  exact gr_assoc _ _ _
theorem gSep_zero {β : Type} {n : Nat} (h : ¬ 0 < n) (g : Unit → Gr β) : (gSep n).bind g = g () := by
  unfold gSep
  rw [decide_eq_false h]; rfl
theorem runG_is {β : Type} (x : ByteArray) (f : Bool → Gr β) (t : Tk) (r : List Tk) : runG ((gIs x).bind f) (t :: r) = runG (f (isT t x)) (t :: r) := rfl
theorem runG_look {β : Type} (f : Tk → Gr β) (t : Tk) (r : List Tk) : runG (.look f) (t :: r) = runG (f t) (t :: r) := rfl
structure TVal where
  t : Int
  i : Int
  b : Bool
  s : ByteArray
inductive TExpr where
  | mk (k a : Int) (of nm : ByteArray) (v : TVal) (op : Int) (kids : List TExpr)
structure TParam where
  nm : ByteArray
  t : Int
inductive TStmt where
  | mk (k a : Int) (nm : ByteArray) (e : TExpr) (body els : List TStmt) (he : Bool)
structure TFunc where
  nm : ByteArray
  ex : Bool
  a : Int
  ps : List TParam
  res : Int
  body : List TStmt
structure TIncl where
  p : ByteArray
  nm : ByteArray
  a : Int
structure TCons where
  nm : ByteArray
  ex : Bool
  a : Int
  e : TExpr
structure TMod where
  is : List TIncl
  cs : List TCons
  fs : List TFunc
def b0 : ByteArray := ⟨#[]⟩
def val0 : TVal := ⟨0, 0, false, b0⟩
def expr0 : TExpr := .mk 0 0 b0 b0 val0 0 []
def signs : Nat → List ByteArray
  | 0 => [mkB [124, 124]]
  | 1 => [mkB [38, 38]]
  | 2 => [mkB [61, 61], mkB [33, 61], mkB [60], mkB [60, 61], mkB [62], mkB [62, 61]]
  | 3 => [mkB [43], mkB [45], mkB [43, 43]]
  | _ => [mkB [42], mkB [47], mkB [37]]
def opSigns : List ByteArray := [mkB [124, 124], mkB [38, 38], mkB [61, 61], mkB [33, 61], mkB [60], mkB [60, 61], mkB [62], mkB [62, 61], mkB [43], mkB [45], mkB [43, 43], mkB [42], mkB [47], mkB [37]]
def opGo : List ByteArray → ByteArray → Nat → Nat
  | [], _, _ => 0
  | x :: r, s, i => match decide (s = x) with | true => i | false => opGo r s (i + 1)
def opOf (s : ByteArray) : Int := opGo opSigns s 1
def unSigns : List ByteArray := [mkB [45], mkB [33], mkB [35]]
def unOp (s : ByteArray) : Int := if s = mkB [45] then 15 else if s = mkB [33] then 16 else 17
/-- the value of a number's text -/
def numZ (s : ByteArray) : Int := (numR (L s)).1
/-- the value of a text's text -/
def txtZ (s : ByteArray) : ByteArray := match L s with
  | [] => b0
  | c :: r => if c.toNat = 34 then (match quo r with | none => b0 | some (t, n) => if n = r.length + 1 then mkB t else b0) else b0
def bin (a : Nat) (s : ByteArray) (x y : TExpr) : TExpr := .mk 5 a b0 b0 val0 (opOf s) [x, y]
def una (a : Nat) (s : ByteArray) (x : TExpr) : TExpr := .mk 4 a b0 b0 val0 (unOp s) [x]
mutual
def pLine : Nat → Nat → Nat → Gr TExpr
  | 0, _, _ => .out
  | n + 1, k, d => match decide (k = 5) with
    | true => pUnary n d
    | false => (pLine n (k + 1) d).bind fun e => pTail n k d e
termination_by structural n => n
def pTail : Nat → Nat → Nat → TExpr → Gr TExpr
  | 0, _, _, _ => .out
  | n + 1, k, d, e => .look fun t => match isAny t (signs k) with
    | true => .next ((pLine n (k + 1) d).bind fun e2 => match decide (k = 2) with
      | true => .ret (bin t.a t.s e e2)
      | false => pTail n k d (bin t.a t.s e e2))
    | false => .ret e
termination_by structural n => n
def pUnary : Nat → Nat → Gr TExpr
  | 0, _ => .out
  | n + 1, d => .look fun t => match isAny t unSigns with
    | true => match decide (64 ≤ d) with
      | true => .err 141
      | false => .next ((pUnary n (d + 1)).bind fun e => .ret (una t.a t.s e))
    | false => pPrim n d
termination_by structural n => n
def pPrim : Nat → Nat → Gr TExpr
  | 0, _ => .out
  | n + 1, d => .look fun t => match decide (t.k = 2) with
    | true => .next (.ret (.mk 1 t.a b0 b0 ⟨1, numZ t.s, false, b0⟩ 0 []))
    | false => match decide (t.k = 3) with
      | true => .next (.ret (.mk 1 t.a b0 b0 ⟨3, 0, false, txtZ t.s⟩ 0 []))
      | false => match isAny t [mkB [116, 114, 117, 101], mkB [102, 97, 108, 115, 101]] with
        | true => .next (.ret (.mk 1 t.a b0 b0 ⟨2, 0, decide (t.s = mkB [116, 114, 117, 101]), b0⟩ 0 []))
        | false => match isT t (mkB [40]) with
          | true => (gOpen (mkB [40]) d).bind fun _ => (pLine n 0 (d + 1)).bind fun e => (gMust (mkB [41])).bind fun _ => .ret e
          | false => (gOf 1).bind fun w => (gIs (mkB [46])).bind fun
            | true => .next ((gOf 1).bind fun w2 => pName n d t.a w.1 w2.1)
            | false => pName n d t.a b0 w.1
termination_by structural n => n
def pName : Nat → Nat → Nat → ByteArray → ByteArray → Gr TExpr
  | 0, _, _, _, _ => .out
  | n + 1, d, a, of, nm => (gIs (mkB [40])).bind fun
    | true => (pArgs n d).bind fun l => .ret (.mk 3 a of nm val0 0 l)
    | false => .ret (.mk 2 a of nm val0 0 [])
termination_by structural n => n
def pArgs : Nat → Nat → Gr (List TExpr)
  | 0, _ => .out
  | n + 1, d => (gOpen (mkB [40]) d).bind fun _ => pArgl n (d + 1) []
termination_by structural n => n
def pArgl : Nat → Nat → List TExpr → Gr (List TExpr)
  | 0, _, _ => .out
  | n + 1, d, l => (gIs (mkB [41])).bind fun
    | true => .next (.ret l)
    | false => (gSep l.length).bind fun _ => (pLine n 0 d).bind fun e => pArgl n d (l ++ [e])
termination_by structural n => n
end
def kInt : ByteArray := mkB [105, 110, 116]
def kBool : ByteArray := mkB [98, 111, 111, 108]
def kText : ByteArray := mkB [116, 101, 120, 116]
def pType : Gr Int := .look fun t => match isAny t [kInt, kBool, kText] with
  | true => .next (.ret (if t.s = kInt then 1 else if t.s = kBool then 2 else 3))
  | false => .err 140
def kVar : ByteArray := mkB [118, 97, 114]
def kIf : ByteArray := mkB [105, 102]
def kElse : ByteArray := mkB [101, 108, 115, 101]
def kWhile : ByteArray := mkB [119, 104, 105, 108, 101]
def kReturn : ByteArray := mkB [114, 101, 116, 117, 114, 110]
def kPrint : ByteArray := mkB [112, 114, 105, 110, 116]
def kInclude : ByteArray := mkB [105, 110, 99, 108, 117, 100, 101]
def kAs : ByteArray := mkB [97, 115]
def kExport : ByteArray := mkB [101, 120, 112, 111, 114, 116]
def kConst : ByteArray := mkB [99, 111, 110, 115, 116]
def kFunc : ByteArray := mkB [102, 117, 110, 99]
/-- kind, name, expression of a statement that begins with a word -/
def pNamed (n d : Nat) : Gr (Int × ByteArray × TExpr) := (gOf 1).bind fun w => (gIs (mkB [61])).bind fun
  | true => .next ((pLine n 0 d).bind fun e => .ret (2, w.1, e))
  | false => (gIs (mkB [46])).bind fun
    | true => .next ((gOf 1).bind fun w2 => (pArgs n d).bind fun l => .ret (7, b0, .mk 3 w.2 w.1 w2.1 val0 0 l))
    | false => (pArgs n d).bind fun l => .ret (7, b0, .mk 3 w.2 b0 w.1 val0 0 l)
/-- behind a statement's end sign -/
def gSemi (s : TStmt) : Gr TStmt := (gMust (mkB [59])).bind fun _ => .ret s
mutual
def pBlock : Nat → Nat → Gr (List TStmt)
  | 0, _ => .out
  | n + 1, d => (gOpen (mkB [123]) d).bind fun _ => pStmts n (d + 1) []
termination_by structural n => n
def pStmts : Nat → Nat → List TStmt → Gr (List TStmt)
  | 0, _, _ => .out
  | n + 1, d, l => (gIs (mkB [125])).bind fun
    | true => .next (.ret l)
    | false => (pStmt n d).bind fun s => pStmts n d (l ++ [s])
termination_by structural n => n
def pStmt : Nat → Nat → Gr TStmt
  | 0, _ => .out
  | n + 1, d => .look fun t => match isT t kVar with
    | true => .next ((gOf 1).bind fun w => (gMust (mkB [61])).bind fun _ => (pLine n 0 d).bind fun e => gSemi (.mk 1 t.a w.1 e [] [] false))
    | false => match isT t kIf with
      | true => pBranch n d
      | false => match isT t kWhile with
        | true => .next ((pLine n 0 d).bind fun e => (pBlock n d).bind fun b => .ret (.mk 4 t.a b0 e b [] false))
        | false => match isT t kReturn with
          | true => .next ((gIs (mkB [59])).bind fun
            | true => gSemi (.mk 5 t.a b0 expr0 [] [] false)
            | false => (pLine n 0 d).bind fun e => gSemi (.mk 5 t.a b0 e [] [] false))
          | false => match isT t kPrint with
            | true => .next ((pLine n 0 d).bind fun e => gSemi (.mk 6 t.a b0 e [] [] false))
            | false => (pNamed n d).bind fun x => gSemi (.mk x.1 t.a x.2.1 x.2.2 [] [] false)
termination_by structural n => n
def pBranch : Nat → Nat → Gr TStmt
  | 0, _ => .out
  | n + 1, d => (gMust kIf).bind fun a => (pLine n 0 d).bind fun e => (pBlock n d).bind fun b => (gIs kElse).bind fun
    | false => .ret (.mk 3 a b0 e b [] false)
    | true => .next ((gIs kIf).bind fun
      | true => (pBranch n d).bind fun s => .ret (.mk 3 a b0 e b [s] true)
      | false => (pBlock n d).bind fun l => .ret (.mk 3 a b0 e b l true))
termination_by structural n => n
end
def pParam : Gr TParam := (gOf 1).bind fun w => (gMust (mkB [58])).bind fun _ => pType.bind fun t => .ret ⟨w.1, t⟩
def pParams : Nat → List TParam → Gr (List TParam)
  | 0, _ => .out
  | n + 1, l => (gIs (mkB [41])).bind fun
    | true => .next (.ret l)
    | false => (gSep l.length).bind fun _ => pParam.bind fun x => pParams n (l ++ [x])
def pFunc (n : Nat) (ex : Bool) : Gr TFunc := (gMust kFunc).bind fun _ => (gOf 1).bind fun w => (gOpen (mkB [40]) 0).bind fun _ => (pParams n []).bind fun ps => (gIs (mkB [58])).bind fun
  | true => .next (pType.bind fun t => (pBlock n 0).bind fun b => .ret ⟨w.1, ex, w.2, ps, t, b⟩)
  | false => (pBlock n 0).bind fun b => .ret ⟨w.1, ex, w.2, ps, 0, b⟩
def pConst (n : Nat) (ex : Bool) : Gr TCons := (gMust kConst).bind fun _ => (gOf 1).bind fun w => (gMust (mkB [61])).bind fun _ => (pLine n 0 0).bind fun e => (gMust (mkB [59])).bind fun _ => .ret ⟨w.1, ex, w.2, e⟩
def pIncl : Gr TIncl := (gMust kInclude).bind fun a => (gOf 3).bind fun q => (gMust kAs).bind fun _ => (gOf 1).bind fun w => (gMust (mkB [59])).bind fun _ => .ret ⟨txtZ q.1, w.1, a⟩
def pIncls : Nat → List TIncl → Gr (List TIncl)
  | 0, _ => .out
  | n + 1, l => (gIs kInclude).bind fun
    | true => pIncl.bind fun x => pIncls n (l ++ [x])
    | false => .ret l
def pDecl (k : TMod → Gr TMod) (n : Nat) (ex : Bool) (m : TMod) : Gr TMod := .look fun t => match isT t kConst with
  | true => (pConst n ex).bind fun c => k { m with cs := m.cs ++ [c] }
  | false => match isT t kFunc with
    | true => (pFunc n ex).bind fun f => k { m with fs := m.fs ++ [f] }
    | false => .err 140
def pDecls : Nat → TMod → Gr TMod
  | 0, _ => .out
  | n + 1, m => .look fun t => match decide (t.k = 0) with
    | true => .ret m
    | false => match isT t kExport with
      | true => .next (pDecl (pDecls n) n true m)
      | false => pDecl (pDecls n) n false m
def pModule (n : Nat) : Gr TMod := (pIncls n []).bind fun l => pDecls n ⟨l, [], []⟩
def pEnd {α : Type} (p : Gr α) : Gr α := p.bind fun x => .look fun t => match decide (t.k = 0) with
  | true => .ret x
  | false => .err 140
end Go.Proofs.YtacfbgfphkfobaaGreatDoor.Id
/-! ## PaRd -/
namespace Go.Proofs.YtacfbgfphkfobaaGreatDoor.Id
open Go
set_option linter.unusedVariables false
set_option linter.unusedSimpArgs false
variable {X : Given}
/-- a reader's cells -/
abbrev rd (s : ByteArray) (F T k a b : Int) (x : ByteArray) (d : Int) : List V := [vS s, vI F, vI T, vI k, vI a, vI b, vS x, vI d]
abbrev stopV (e a : Int) : V := .iface 136 (.agg [.int .i64 e, .int .i64 a])
theorem r_fail (e : Int) (s : ByteArray) (F T k a b : Int) (x : ByteArray) (d : Int) : Does X 56 [.box base 0, vI e] [rd s F T k a b x d] (.pan (stopV e a) [rd s F T k a b x d]) := by
  refine DoesQ.eq (DoesQ.of Tryz.func56 (by kernel_rfl) ?_)
  exact WP.leaf rfl
theorem is_loop (l : List ByteArray) (hl : l.length ≤ 1048576) (s : ByteArray) (F T k a b : Int) (x : ByteArray) (d : Int) (K : Ex → St → Id.T Out) (Q : Out → Prop)
    (hE : (l.any fun y => decide (x = y)) = false → WP X (K (.exit 0) ⟨[], [(base, rd s F T k a b x d)]⟩) Q) (hR : (l.any fun y => decide (x = y)) = true → WP X (K .ret ⟨[(4, .lit true)], [(base, rd s F T k a b x d)]⟩) Q) :
    ∀ (r p : List ByteArray), l = p ++ r → (p.any fun y => decide (x = y)) = false → ∀ σ : St, getT σ.t 0 = .box base 0 → getT σ.t 21 = .d (.sl 1 (rowS l)) → getT σ.t 22 = vI (rowS l).length → getT σ.t 23 = vI p.length → getB σ.b base = some (rd s F T k a b x d) → WP X (.loop (lp Tryz.f57 0) σ K) Q
  | r, p, h, hp, σ, g0, g21, g22, g23, gb => by
    refine WP.round ⟨[(0, .box base 0), (21, .d (.sl 1 (rowS l))), (22, vI (rowS l).length), (23, vI p.length)], [(base, rd s F T k a b x d)]⟩ ⟨⟨.inl g0.symm, .inl g21.symm, .inl g22.symm, .inl g23.symm, trivial⟩, ⟨WkB.box gb, trivial⟩⟩ ?_
    cases r with
    | nil =>
      refine WP.iteF (by subst h; simp [rowS]) ?_
      refine WP.leaf ⟨⟨[], [(base, rd s F T k a b x d)]⟩, ⟨trivial, ⟨WkB.box rfl, trivial⟩⟩, hE (by subst h; simpa using hp)⟩
    | cons y r =>
      have hd : l.drop p.length = y :: r := by subst h; simp
      have hlen : l.length = p.length + r.length + 1 := by subst h; simp; omega
      refine WP.iteT (by simp only [rowS, List.length_map]; rw [hlen]; simp; omega) ?_
      refine WP.idx _ (by omega) (rowS_get hd) ?_
      refine WP.dec (fun hx => ?_) (fun hx => ?_)
      · refine WP.leaf ⟨⟨[(4, .lit true)], [(base, rd s F T k a b x d)]⟩, ⟨⟨.inl rfl, trivial⟩, ⟨WkB.box rfl, trivial⟩⟩, hR (by subst h; simp [hx])⟩
      · refine WP.leaf ?_
        refine is_loop l hl s F T k a b x d K Q hE hR r (p ++ [y]) (by subst h; simp) (by rw [List.any_append, hp]; simpa using hx) _ rfl rfl rfl ?_ rfl
        show vI (IntKind.i64.wrap ((p.length : Int) + 1)) = _
        rw [wrapI (by omega) (by omega)]; simp
theorem r_is (l : List ByteArray) (hl : l.length ≤ 1048576) (s : ByteArray) (F T k a b : Int) (x : ByteArray) (d : Int) : Does X 57 [.box base 0, .d (.sl 1 (rowS l))] [rd s F T k a b x d] (.ret (vB ((decide (k = 5) || decide (k = 4)) && l.any fun y => decide (x = y))) [rd s F T k a b x d]) := by
  refine DoesQ.eq (DoesQ.of Tryz.func57 (by kernel_rfl) ?_)
  by_cases h5 : k = 5
  · refine WP.iteF (by simp [h5]) ?_
    refine is_loop l hl s F T k a b x d _ _ ?_ ?_ l [] rfl rfl _ rfl rfl rfl rfl rfl
    · intro h; exact WP.leaf (by simp [h, h5])
    · intro h; exact WP.leaf (by simp [h, h5])
  · refine WP.iteT (by simp [h5]) ?_
    by_cases h4 : k = 4
    · refine WP.iteF (by simp [h4]) ?_
      refine is_loop l hl s F T k a b x d _ _ ?_ ?_ l [] rfl rfl _ rfl rfl rfl rfl rfl
      · intro h; exact WP.leaf (by simp [h, h4])
      · intro h; exact WP.leaf (by simp [h, h4])
    · refine WP.iteT (by simp [h4]) ?_
      exact WP.leaf (by simp [h4, h5])
/-! ### the tokens of a source from a byte on, with so much fuel; then the fault, where they don't reach the end -/
def tkAt (s : ByteArray) (i : Nat) : Tk := ⟨(nx (L s) i).1, (nx (L s) i).2.1, s.extract (nx (L s) i).2.1 (nx (L s) i).2.2.1⟩
inductive Chain (s : ByteArray) : Nat → Nat → List Tk → Nat × Nat → Prop where
  | bad {i b : Nat} : (nx (L s) i).2.2.2 ≠ 0 → Chain s i b [] ((nx (L s) i).2.2.2, (nx (L s) i).2.1)
  | fin {i b : Nat} {f : Nat × Nat} : (nx (L s) i).2.2.2 = 0 → (nx (L s) i).1 = 0 → Chain s i b [tkAt s i] f
  | out {i : Nat} : (nx (L s) i).2.2.2 = 0 → (nx (L s) i).1 ≠ 0 → Chain s i 0 [] (142, (nx (L s) i).2.1)
  | tok {i b : Nat} {l : List Tk} {f : Nat × Nat} : (nx (L s) i).2.2.2 = 0 → (nx (L s) i).1 ≠ 0 → Chain s (nx (L s) i).2.2.1 b l f → Chain s i (b + 1) (tkAt s i :: l) f
theorem chain_ex (s : ByteArray) : ∀ (n i b : Nat), i ≤ s.size → s.size - i < n → ∃ l f, Chain s i b l f
  | 0, i, b, hi, hn => by omega
  | n + 1, i, b, hi, hn => by
    by_cases he : (nx (L s) i).2.2.2 = 0
    · by_cases hk : (nx (L s) i).1 = 0
      · exact ⟨_, (0, 0), .fin he hk⟩
      · cases b with
        | zero => exact ⟨_, _, .out he hk⟩
        | succ b =>
          have := nx_adv (L s) i (by rw [L_length]; exact hi) he hk
          rw [L_length] at this
          obtain ⟨l, f, h⟩ := chain_ex s n (nx (L s) i).2.2.1 b (by omega) (by omega)
          exact ⟨_, f, .tok he hk h⟩
    · exact ⟨_, _, .bad he⟩
theorem tkAt_to (s : ByteArray) (i : Nat) (hi : i ≤ s.size) (he : (nx (L s) i).2.2.2 = 0) : (tkAt s i).a + (tkAt s i).s.size = (nx (L s) i).2.2.1 ∧ (nx (L s) i).2.2.1 ≤ s.size := by
  by_cases hk : (nx (L s) i).1 = 0
  · have : (nx (L s) i).2.1 = s.size ∧ (nx (L s) i).2.2.1 = s.size := by
      unfold nx at *
      split at hk
      · rename_i h; rw [if_pos h]; exact ⟨L_length s, L_length s⟩
      · rename_i h
        rw [if_neg h] at he
        split at hk
        · rename_i h2
          have := tok_ok _ h2
          simp only at hk; omega
        · rename_i h2; rw [if_neg h2] at he; exact absurd he h2
    unfold tkAt
    simp only [ByteArray.size_extract]
    omega
  · have := nx_adv (L s) i (by rw [L_length]; exact hi) he hk
    rw [L_length] at this
    unfold tkAt
    simp only [ByteArray.size_extract]
    omega
theorem tkAt_good (s : ByteArray) (i : Nat) (hi : i ≤ s.size) (he : (nx (L s) i).2.2.2 = 0) (hk : (nx (L s) i).1 ≠ 0) : tok (L (tkAt s i).s) = ((tkAt s i).k, (tkAt s i).s.size, 0) := by
  have hto := tkAt_to s i hi he
  have h1 := nx_fr (L s) i
  obtain ⟨h2, h3, h4⟩ := nx_tok (L s) i he hk
  have hsz : (tkAt s i).s.size = (nx (L s) i).2.2.1 - (nx (L s) i).2.1 := by
    have : (tkAt s i).a = (nx (L s) i).2.1 := rfl
    omega
  have e : L (tkAt s i).s = ((L s).drop (nx (L s) i).2.1).take ((nx (L s) i).2.2.1 - (nx (L s) i).2.1) := by
    show L (s.extract _ _) = _
    rw [L_extract]
  rw [e, hsz]
  have := tok_self ((L s).drop (nx (L s) i).2.1) (by rw [h4])
  rw [h4] at this
  exact this
structure Env where
  s : ByteArray
  F : Nat
  N : Nat
  f : Nat × Nat
  hs : s.size ≤ 65536
  hF : F ≤ 9223372036854775807
abbrev rdT (E : Env) (T : Nat) (t : Tk) (d : Nat) : List V := rd E.s E.F T t.k t.a ((t.a + t.s.size : Nat) : Int) t.s d
/-- the reader stands at a token -/
structure At (E : Env) (T : Nat) (t : Tk) (r : List Tk) : Prop where
  n : T + (r.length + 1) = E.N
  z : t.k = 0 → r = []
  c : t.k ≠ 0 → T < E.F ∧ Chain E.s (t.a + t.s.size) (E.F - T - 1) r E.f
  b : t.a + t.s.size ≤ E.s.size
  g : t.k ≠ 0 → tok (L t.s) = (t.k, t.s.size, 0)
def Post {α : Type} (E : Env) (d : Nat) (ro : α → List V → Out) (po : V → List V → Out → Prop) (res : Rs α) (o : Out) : Prop :=
  match res with
  | .ok x l => ∃ T t r, l = t :: r ∧ At E T t r ∧ o = ro x (rdT E T t d)
  | .more => ∃ (k a b : Int) (y : ByteArray) (d2 : Int), po (stopV E.f.1 E.f.2) (rd E.s E.F E.N k a b y d2) o
  | .err e l => ∃ t r T, ∃ (k a b : Int) (y : ByteArray) (d2 : Int), l = t :: r ∧ T + l.length = E.N ∧ po (stopV (e : Nat) t.a) (rd E.s E.F (T : Nat) k a b y d2) o
  | .out => False
abbrev po1 (v : V) (cells : List V) (o : Out) : Prop := o = .pan v [cells]
set_option maxHeartbeats 2000000 in
/-- look: the tokens from a byte on -/
theorem r_look (hX : LibX X) (E : Env) (T i : Nat) (l : List Tk) (hi : i ≤ E.s.size) (hT : T ≤ E.F) (hN : T + l.length = E.N) (hc : Chain E.s i (E.F - T) l E.f) (k a b : Int) (y : ByteArray) (d : Nat) :
    DoesQ X 55 [.box base 0, vI i] [rd E.s E.F T k a b y d] (Post E d (fun _ c => .ret (.tuple []) [c]) po1 (match l with | [] => Rs.more | l => .ok () l)) := by
  have hs := E.hs
  have hF := E.hF
  refine DoesQ.of Tryz.func55 (by kernel_rfl) ?_
  refine WP.use1 (lnext hX E.s E.hs i hi) ?_
  have hfr := nx_from (L E.s) i (by rw [L_length]; exact hi)
  rw [L_length] at hfr
  generalize hb0 : E.F - T = b0 at hc
  generalize hf0 : E.f = f0 at hc
  cases hc with
  | bad he =>
    refine WP.iteT (by simpa using he) ?_
    refine WP.use1 (r_fail _ _ _ _ _ _ _ _ _) ?_
    refine WP.leaf ⟨(nx (L E.s) i).1, (nx (L E.s) i).2.1, (nx (L E.s) i).2.2.1, y, d, ?_⟩
    simp only [List.length_nil, Nat.add_zero] at hN
    rw [hf0, ← hN]
  | fin he hk =>
    have hto := tkAt_to E.s i hi he
    have hta : (tkAt E.s i).a = (nx (L E.s) i).2.1 := rfl
    have hn : T + 1 = E.N := by simpa using hN
    refine WP.iteF (by simp [he]) ?_
    refine WP.asrt (by kernel_rfl) ?_
    iterate 10 refine WP.iteF (by simp [hk]) ?_
    refine WP.asrt (by kernel_rfl) ?_
    refine WP.asrt (by kernel_rfl) ?_
    refine WP.asrt ⟨by simp, by simp; omega, by simp; omega⟩ ?_
    refine WP.asrt (by kernel_rfl) ?_
    refine WP.leaf ⟨T, tkAt E.s i, [], rfl, ⟨hn, fun _ => rfl, fun h => absurd hk h, by omega, fun h => absurd hk h⟩, ?_⟩
    show _ = Out.ret _ [rd _ _ _ _ _ (((tkAt E.s i).a + (tkAt E.s i).s.size : Nat) : Int) _ _]
    rw [hto.1]; rfl
  | out he hk =>
    refine WP.iteF (by simp [he]) ?_
    refine WP.asrt (by kernel_rfl) ?_
    iterate 9 refine WP.iteT (by simp [hk]) ?_
    refine WP.iteT (by simp [hk]) ?_
    refine WP.asrt (by kernel_rfl) ?_
    refine WP.iteT (by simp; omega) ?_
    refine WP.use1 (r_fail _ _ _ _ _ _ _ _ _) ?_
    refine WP.leaf ⟨(nx (L E.s) i).1, (nx (L E.s) i).2.1, (nx (L E.s) i).2.2.1, y, d, ?_⟩
    simp only [List.length_nil, Nat.add_zero] at hN
    rw [hf0, ← hN]; rfl
  | @tok i b1 l1 f1 he hk hc =>
    have hto := tkAt_to E.s i hi he
    have hta : (tkAt E.s i).a = (nx (L E.s) i).2.1 := rfl
    have hn : T + (l1.length + 1) = E.N := by simpa using hN
    have hadv := nx_adv (L E.s) i (by rw [L_length]; exact hi) he hk
    refine WP.iteF (by simp [he]) ?_
    refine WP.asrt (by kernel_rfl) ?_
    iterate 9 refine WP.iteT (by simp [hk]) ?_
    refine WP.iteT (by simp [hk]) ?_
    refine WP.asrt (by kernel_rfl) ?_
    refine WP.iteF (by simp; omega) ?_
    refine WP.asrt (by kernel_rfl) ?_
    refine WP.asrt ⟨by simp, by simp; omega, by simp; omega⟩ ?_
    refine WP.asrt (by kernel_rfl) ?_
    refine WP.leaf ⟨T, tkAt E.s i, l1, rfl, ⟨hn, fun h => absurd h hk, fun _ => ⟨by omega, ?_⟩, by omega, fun _ => tkAt_good E.s i hi he hk⟩, ?_⟩
    · rw [hto.1, show E.F - T - 1 = b1 by omega, hf0]; exact hc
    show _ = Out.ret _ [rd _ _ _ _ _ (((tkAt E.s i).a + (tkAt E.s i).s.size : Nat) : Int) _ _]
    rw [hto.1]; rfl
/-- next: the next token is taken, and there is another one -/
theorem r_next (hX : LibX X) (E : Env) (T : Nat) (t : Tk) (r : List Tk) (hA : At E T t r) (hk : t.k ≠ 0) (d : Nat) :
    DoesQ X 61 [.box base 0] [rdT E T t d] (Post E d (fun x c => .ret (.tuple [vS x.1, vI (x.2 : Nat)]) [c]) po1 (runG (.next (.ret (t.s, t.a))) (t :: r))) := by
  have hF := E.hF
  have hs := E.hs
  obtain ⟨h1, h2⟩ := hA.c hk
  have hn := hA.n
  refine DoesQ.of Tryz.func61 (by kernel_rfl) ?_
  refine WP.asrt (by kernel_rfl) ?_
  refine WP.asrt (by kernel_rfl) ?_
  refine WP.use (R := Post E d (fun _ c => .ret (.tuple []) [c]) po1 (match r with | [] => Rs.more | l => .ok () l)) ?_ ?_
  · have e : IntKind.wrap .i64 ((T : Int) + 1) = ((T + 1 : Nat) : Int) := by rw [wrapI (by omega) (by omega)]; rfl
    have := r_look hX E (T + 1) (t.a + t.s.size) r hA.b (by omega) (by omega) (by rw [show E.F - (T + 1) = E.F - T - 1 by omega]; exact h2) t.k t.a ((t.a + t.s.size : Nat) : Int) t.s d
    rw [← e] at this
    exact this
  · intro o ho
    cases r with
    | nil =>
      obtain ⟨k, a, b, y, d2, rfl⟩ := ho
      exact WP.leaf ⟨k, a, b, y, d2, rfl⟩
    | cons u r =>
      obtain ⟨T', t', r', hl, hA', rfl⟩ := ho
      exact WP.leaf ⟨T', t', r', hl, hA', rfl⟩
end Go.Proofs.YtacfbgfphkfobaaGreatDoor.Id
/-! ## PaRe -/
namespace Go.Proofs.YtacfbgfphkfobaaGreatDoor.Id
open Go
set_option linter.unusedVariables false
set_option linter.unusedSimpArgs false
variable {X : Given}
/-- a function of the reader does what a grammar says -/
def Rdr {α : Type} (X : Given) (g : FuncId) (args : List V) (B : List V → List (List V)) (d d' : Nat) (p : Gr α) (ro : α → List V → Out) (po : V → List V → Out → Prop) : Prop :=
  ∀ (E : Env) (T : Nat) (t : Tk) (r : List Tk), At E T t r → runG p (t :: r) ≠ .out → DoesQ X g args (B (rdT E T t d)) (Post E d' ro po (runG p (t :: r)))
/-- the reader's box alone -/
abbrev B1 (c : List V) : List (List V) := [c]
theorem Post.pan {α : Type} {E : Env} {d : Nat} {ro : α → List V → Out} {po po' : V → List V → Out → Prop} {res : Rs α} {o : Out} {β : Type} {d' : Nat} {ro' : β → List V → Out} {h : α → List Tk → Rs β} (hp : Post E d ro po res o) (hne : res.bind h ≠ .out) :
    (∃ x T t r, res = .ok x (t :: r) ∧ At E T t r ∧ o = ro x (rdT E T t d)) ∨ ∃ (e q T k a b : Int) (y : ByteArray) (d2 : Int), po (stopV e q) (rd E.s E.F T k a b y d2) o ∧ ∀ o', po' (stopV e q) (rd E.s E.F T k a b y d2) o' → Post E d' ro' po' (res.bind h) o' := by
  cases res with
  | ok x l => obtain ⟨T, t, r, rfl, hA, rfl⟩ := hp; exact .inl ⟨x, T, t, r, rfl, hA, rfl⟩
  | more => obtain ⟨k, a, b, y, d2, ho⟩ := hp; exact .inr ⟨_, _, _, k, a, b, y, d2, ho, fun o' h' => ⟨k, a, b, y, d2, h'⟩⟩
  | err e l => obtain ⟨t, r, T, k, a, b, y, d2, rfl, hN, ho⟩ := hp; exact .inr ⟨_, _, _, k, a, b, y, d2, ho, fun o' h' => ⟨t, r, T, k, a, b, y, d2, rfl, hN, h'⟩⟩
  | out => exact absurd rfl hne
/-- a call ahead of the rest -/
theorem Rdr.seq {α β : Type} {g : FuncId} {args : List V} {B : List V → List (List V)} {d d' d'' : Nat} {p : Gr α} {ro : α → List V → Out} {po po' : V → List V → Out → Prop} {ro' : β → List V → Out} {h : α → Gr β} {k : Out → Id.T Out}
    {E : Env} {T : Nat} {t : Tk} {r : List Tk} (hD : DoesQ X g args (B (rdT E T t d)) (Post E d' ro po (runG p (t :: r)))) (hne : runG (p.bind h) (t :: r) ≠ .out)
    (hok : ∀ x T t r, At E T t r → runG (h x) (t :: r) ≠ .out → WP X (k (ro x (rdT E T t d'))) (Post E d'' ro' po' (runG (h x) (t :: r))))
    (hpan : ∀ (e q T k' a b : Int) (y : ByteArray) (d2 : Int) (o : Out), po (stopV e q) (rd E.s E.F T k' a b y d2) o → WP X (k o) (po' (stopV e q) (rd E.s E.F T k' a b y d2))) :
    WP X (.call g args (B (rdT E T t d)) k) (Post E d'' ro' po' (runG (p.bind h) (t :: r))) := by
  refine WP.use hD fun o ho => ?_
  rw [runG_bind] at hne ⊢
  rcases Post.pan (h := fun x r => runG (h x) r) (d' := d'') (ro' := ro') (po' := po') ho hne with ⟨x, T', t', r', hr, hA, rfl⟩ | ⟨e, q, T', k', a, b, y, d2, ho', hk⟩
  · rw [hr] at hne ⊢
    exact hok x T' t' r' hA hne
  · exact (hpan e q T' k' a b y d2 o ho').mono hk
theorem Rdr.use {α β : Type} {g : FuncId} {args : List V} {B : List V → List (List V)} {d d' d'' : Nat} {p : Gr α} {ro : α → List V → Out} {po po' : V → List V → Out → Prop} {ro' : β → List V → Out} {h : α → Gr β} {k : Out → Id.T Out}
    {E : Env} {T : Nat} {t : Tk} {r : List Tk} (hD : Rdr X g args B d d' p ro po) (hA : At E T t r) (hne : runG (p.bind h) (t :: r) ≠ .out)
    (hok : ∀ x T t r, At E T t r → runG (h x) (t :: r) ≠ .out → WP X (k (ro x (rdT E T t d'))) (Post E d'' ro' po' (runG (h x) (t :: r))))
    (hpan : ∀ (e q T k' a b : Int) (y : ByteArray) (d2 : Int) (o : Out), po (stopV e q) (rd E.s E.F T k' a b y d2) o → WP X (k o) (po' (stopV e q) (rd E.s E.F T k' a b y d2))) :
    WP X (.call g args (B (rdT E T t d)) k) (Post E d'' ro' po' (runG (p.bind h) (t :: r))) := by
  refine Rdr.seq (hD E T t r hA fun e => hne ?_) hne hok hpan
  rw [runG_bind, e]; rfl
theorem Round.mono {γ : Type} {c : Code} {K : Ex → St → Id.T γ} {Q1 Q2 : γ → Prop} (h : ∀ o, Q1 o → Q2 o) : ∀ x : Ex × St, Round X c K Q1 x → Round X c K Q2 x
  | (.normal, σ), r => WP.mono r h
  | (.exit i, σ), ⟨σ3, w, r⟩ => ⟨σ3, w, WP.mono r h⟩
  | (.ret, σ), ⟨σ3, w, r⟩ => ⟨σ3, w, WP.mono r h⟩
  | (.pan v, σ), r => WP.mono r h
/-- a call ahead of the rest, in a loop -/
theorem Rdr.seqL {α β : Type} {g : FuncId} {args : List V} {B : List V → List (List V)} {d d' d'' : Nat} {p : Gr α} {ro : α → List V → Out} {po po' : V → List V → Out → Prop} {ro' : β → List V → Out} {h : α → Gr β} {c : Code} {K : Ex → St → Id.T Out} {k : Out → Id.T (Ex × St)}
    {E : Env} {T : Nat} {t : Tk} {r : List Tk} (hD : DoesQ X g args (B (rdT E T t d)) (Post E d' ro po (runG p (t :: r)))) (hne : runG (p.bind h) (t :: r) ≠ .out)
    (hok : ∀ x T t r, At E T t r → runG (h x) (t :: r) ≠ .out → WP X (k (ro x (rdT E T t d'))) (Round X c K (Post E d'' ro' po' (runG (h x) (t :: r)))))
    (hpan : ∀ (e q T k' a b : Int) (y : ByteArray) (d2 : Int) (o : Out), po (stopV e q) (rd E.s E.F T k' a b y d2) o → WP X (k o) (Round X c K (po' (stopV e q) (rd E.s E.F T k' a b y d2)))) :
    WP X (.call g args (B (rdT E T t d)) k) (Round X c K (Post E d'' ro' po' (runG (p.bind h) (t :: r)))) := by
  refine WP.use hD fun o ho => ?_
  rw [runG_bind] at hne ⊢
  rcases Post.pan (h := fun x r => runG (h x) r) (d' := d'') (ro' := ro') (po' := po') ho hne with ⟨x, T', t', r', hr, hA, rfl⟩ | ⟨e, q, T', k', a, b, y, d2, ho', hk⟩
  · rw [hr] at hne ⊢
    exact hok x T' t' r' hA hne
  · exact (hpan e q T' k' a b y d2 o ho').mono (Round.mono hk)
theorem Rdr.useL {α β : Type} {g : FuncId} {args : List V} {B : List V → List (List V)} {d d' d'' : Nat} {p : Gr α} {ro : α → List V → Out} {po po' : V → List V → Out → Prop} {ro' : β → List V → Out} {h : α → Gr β} {c : Code} {K : Ex → St → Id.T Out} {k : Out → Id.T (Ex × St)}
    {E : Env} {T : Nat} {t : Tk} {r : List Tk} (hD : Rdr X g args B d d' p ro po) (hA : At E T t r) (hne : runG (p.bind h) (t :: r) ≠ .out)
    (hok : ∀ x T t r, At E T t r → runG (h x) (t :: r) ≠ .out → WP X (k (ro x (rdT E T t d'))) (Round X c K (Post E d'' ro' po' (runG (h x) (t :: r)))))
    (hpan : ∀ (e q T k' a b : Int) (y : ByteArray) (d2 : Int) (o : Out), po (stopV e q) (rd E.s E.F T k' a b y d2) o → WP X (k o) (Round X c K (po' (stopV e q) (rd E.s E.F T k' a b y d2)))) :
    WP X (.call g args (B (rdT E T t d)) k) (Round X c K (Post E d'' ro' po' (runG (p.bind h) (t :: r)))) := by
  refine Rdr.seqL (hD E T t r hA fun e => hne ?_) hne hok hpan
  rw [runG_bind, e]; rfl
/-- the next token is taken, ahead of the rest -/
theorem Rdr.next {β : Type} (hX : LibX X) {d d'' : Nat} {po' : V → List V → Out → Prop} {ro' : β → List V → Out} {g : Gr β} {k : Out → Id.T Out} {E : Env} {T : Nat} {t : Tk} {r : List Tk} (hA : At E T t r) (hk : t.k ≠ 0) (hne : runG (.next g) (t :: r) ≠ .out)
    (hok : ∀ T' t' r', At E T' t' r' → runG g (t' :: r') ≠ .out → WP X (k (.ret (.tuple [vS t.s, vI t.a]) [rdT E T' t' d])) (Post E d'' ro' po' (runG g (t' :: r'))))
    (hpan : ∀ (e q T k' a b : Int) (y : ByteArray) (d2 : Int), WP X (k (.pan (stopV e q) [rd E.s E.F T k' a b y d2])) (po' (stopV e q) (rd E.s E.F T k' a b y d2))) :
    WP X (.call 61 [.box base 0] [rdT E T t d] k) (Post E d'' ro' po' (runG (.next g) (t :: r))) := by
  refine WP.use (r_next hX E T t r hA hk d) fun o ho => ?_
  cases r with
  | nil =>
    obtain ⟨k', a, b, y, d2, rfl⟩ := ho
    exact (hpan _ _ _ _ _ _ _ _).mono fun o' h' => ⟨k', a, b, y, d2, h'⟩
  | cons u r =>
    obtain ⟨T', t', r', hl, hA', rfl⟩ := ho
    rw [hl] at hne ⊢
    exact hok T' t' r' hA' hne
theorem Rdr.nextL {β : Type} (hX : LibX X) {d d'' : Nat} {po' : V → List V → Out → Prop} {ro' : β → List V → Out} {g : Gr β} {c : Code} {K : Ex → St → Id.T Out} {k : Out → Id.T (Ex × St)} {E : Env} {T : Nat} {t : Tk} {r : List Tk} (hA : At E T t r) (hk : t.k ≠ 0) (hne : runG (.next g) (t :: r) ≠ .out)
    (hok : ∀ T' t' r', At E T' t' r' → runG g (t' :: r') ≠ .out → WP X (k (.ret (.tuple [vS t.s, vI t.a]) [rdT E T' t' d])) (Round X c K (Post E d'' ro' po' (runG g (t' :: r')))))
    (hpan : ∀ (e q T k' a b : Int) (y : ByteArray) (d2 : Int), WP X (k (.pan (stopV e q) [rd E.s E.F T k' a b y d2])) (Round X c K (po' (stopV e q) (rd E.s E.F T k' a b y d2)))) :
    WP X (.call 61 [.box base 0] [rdT E T t d] k) (Round X c K (Post E d'' ro' po' (runG (.next g) (t :: r)))) := by
  refine WP.use (r_next hX E T t r hA hk d) fun o ho => ?_
  cases r with
  | nil =>
    obtain ⟨k', a, b, y, d2, rfl⟩ := ho
    exact (hpan _ _ _ _ _ _ _ _).mono (Round.mono fun o' h' => ⟨k', a, b, y, d2, h'⟩)
  | cons u r =>
    obtain ⟨T', t', r', hl, hA', rfl⟩ := ho
    rw [hl] at hne ⊢
    exact hok T' t' r' hA' hne
/-- it can't stand there -/
theorem Rdr.fail {β : Type} {d d'' : Nat} {po' : V → List V → Out → Prop} {ro' : β → List V → Out} {e : Nat} {k : Out → Id.T Out} {E : Env} {T : Nat} {t : Tk} {r : List Tk} (hA : At E T t r)
    (hpan : ∀ (e q T k' a b : Int) (y : ByteArray) (d2 : Int), WP X (k (.pan (stopV e q) [rd E.s E.F T k' a b y d2])) (po' (stopV e q) (rd E.s E.F T k' a b y d2))) :
    WP X (.call 56 [.box base 0, vI (e : Nat)] [rdT E T t d] k) (Post E d'' ro' po' (.err e (t :: r))) := by
  refine WP.use1 (r_fail _ _ _ _ _ _ _ _ _) ?_
  exact (hpan _ _ _ _ _ _ _ _).mono fun o' h' => ⟨t, r, T, t.k, t.a, _, t.s, d, rfl, by simpa using hA.n, h'⟩
/-- a panic leaves the function -/
theorem WP.finPan1 {fn : Func} {σ : St} {e q : Int} {s : ByteArray} {F T k a b : Int} {y : ByteArray} {d : Int} (gb : getB σ.b base = some (rd s F T k a b y d)) : WP X (fin tt fn 1 (.pan (stopV e q), σ)) (po1 (stopV e q) (rd s F T k a b y d)) := by
  have h : outB σ 1 1 = some [rd s F T k a b y d] := by
    have e : getB σ.b (base + (1 - (0 + 1))) = some (rd s F T k a b y d) := gb
    simp only [outB]
    rw [e]; rfl
  unfold fin
  rw [h]
  exact WP.leaf rfl
theorem isT_is (t : Tk) (x : ByteArray) : ((decide ((t.k : Int) = 5) || decide ((t.k : Int) = 4)) && [x].any fun y => decide (t.s = y)) = isT t x := by
  unfold isT
  have h5 : ((t.k : Int) = 5) ↔ t.k = 5 := by omega
  have h4 : ((t.k : Int) = 4) ↔ t.k = 4 := by omega
  simp [h5, h4]
theorem isAny_is (t : Tk) (xs : List ByteArray) : ((decide ((t.k : Int) = 5) || decide ((t.k : Int) = 4)) && xs.any fun y => decide (t.s = y)) = isAny t xs := by
  unfold isAny
  have h5 : ((t.k : Int) = 5) ↔ t.k = 5 := by omega
  have h4 : ((t.k : Int) = 4) ↔ t.k = 4 := by omega
  simp [h5, h4]
theorem isT_k {t : Tk} {x : ByteArray} (h : isT t x = true) : t.k ≠ 0 := by unfold isT at h; simp at h; omega
theorem isAny_k {t : Tk} {xs : List ByteArray} (h : isAny t xs = true) : t.k ≠ 0 := by unfold isAny at h; simp at h; omega
/-- is one sign, or key, next? -/
theorem r_is1 (x : ByteArray) (E : Env) (T : Nat) (t : Tk) (d : Nat) : Does X 57 [.box base 0, .d (.sl 1 [[.str x]])] [rdT E T t d] (.ret (vB (isT t x)) [rdT E T t d]) := by
  have := r_is (X := X) [x] (by simp) E.s E.F T t.k t.a ((t.a + t.s.size : Nat) : Int) t.s d
  rw [isT_is] at this
  exact this
theorem r_isA (xs : List ByteArray) (hx : xs.length ≤ 1048576) (E : Env) (T : Nat) (t : Tk) (d : Nat) : Does X 57 [.box base 0, .d (.sl 1 (rowS xs))] [rdT E T t d] (.ret (vB (isAny t xs)) [rdT E T t d]) := by
  have := r_is (X := X) xs hx E.s E.F T t.k t.a ((t.a + t.s.size : Nat) : Int) t.s d
  rw [isAny_is] at this
  exact this
abbrev roN (x : Nat) (c : List V) : Out := .ret (vI x) [c]
abbrev roU (x : Unit) (c : List V) : Out := .ret (.tuple []) [c]
abbrev roW (x : ByteArray × Nat) (c : List V) : Out := .ret (.tuple [vS x.1, vI x.2]) [c]
theorem r_must (hX : LibX X) (x : ByteArray) (d : Nat) : Rdr X 58 [.box base 0, vS x] B1 d d (gMust x) roN po1 := by
  intro E T t r hA hne
  refine DoesQ.of Tryz.func58 (by kernel_rfl) ?_
  refine WP.use1 (r_is1 x E T t d) ?_
  have e : runG (gMust x) (t :: r) = runG (match isT t x with | true => .next (.ret t.a) | false => .err 140) (t :: r) := rfl
  rw [e] at hne ⊢
  cases h : isT t x with
  | false =>
    refine WP.iteT rfl ?_
    rw [h] at hne
    refine WP.use1 (r_fail _ _ _ _ _ _ _ _ _) ?_
    exact WP.leaf ⟨t, r, T, t.k, t.a, _, t.s, d, rfl, by simpa using hA.n, rfl⟩
  | true =>
    refine WP.iteF rfl ?_
    rw [h] at hne
    refine Rdr.seq (B := B1) (p := .next (.ret (t.s, t.a))) (h := fun x => .ret x.2) (r_next hX E T t r hA (isT_k h) d) hne ?_ ?_
    · intro x T t r hA hne
      exact WP.leaf ⟨T, t, r, rfl, hA, rfl⟩
    · rintro e q T k' a b y d2 o rfl; exact WP.leaf rfl

theorem r_close (hX : LibX X) (x : ByteArray) (d : Nat) (hd : d ≤ 64) : Rdr X 91 [.box base 0, vS x] B1 (d + 1) d (gMust x) (fun _ c => roU () c) po1 := by
  intro E T t r hA hne
  refine DoesQ.of Tryz.func91 (by kernel_rfl) ?_
  have e : gMust x = (gMust x).bind fun y => .ret y := by unfold gMust; simp only [Gr.bind]; congr 1; funext t; cases isT t x <;> rfl
  rw [e] at hne ⊢
  refine Rdr.use (r_must hX x (d + 1)) hA hne ?_ ?_
  · intro y T t r hA hne
    refine WP.leaf ⟨T, t, r, rfl, hA, ?_⟩
    show Out.ret _ [rd _ _ _ _ _ _ _ (IntKind.i64.wrap (((d + 1 : Nat) : Int) - 1))] = _
    rw [show (((d + 1 : Nat) : Int) - 1) = (d : Int) by omega, wrapI (by omega) (by omega)]
  · rintro e q T k' a b y d2 o rfl; exact WP.leaf rfl
/-- a level more, or too deep -/
theorem r_enter (E : Env) (T : Nat) (t : Tk) (d : Nat) (hd : d < 64) : Does X 125 [.box base 0] [rdT E T t d] (.ret (.tuple []) [rdT E T t (d + 1)]) := by
  refine DoesQ.eq (DoesQ.of Tryz.func125 (by kernel_rfl) ?_)
  have e : IntKind.i64.wrap ((d : Int) + 1) = ((d + 1 : Nat) : Int) := by rw [wrapI (by omega) (by omega)]; rfl
  refine WP.iteF (by rw [e]; exact decide_eq_false (by omega)) ?_
  exact WP.leaf (by rw [e])
theorem r_enter_deep (E : Env) (T : Nat) (t : Tk) (r : List Tk) (hA : At E T t r) (d : Nat) (hd : 64 ≤ d) (hd2 : d ≤ 64) : Does X 125 [.box base 0] [rdT E T t d] (.pan (stopV 141 t.a) [rdT E T t (d + 1)]) := by
  refine DoesQ.eq (DoesQ.of Tryz.func125 (by kernel_rfl) ?_)
  have e : IntKind.i64.wrap ((d : Int) + 1) = ((d + 1 : Nat) : Int) := by rw [wrapI (by omega) (by omega)]; rfl
  refine WP.iteT (by rw [e]; exact decide_eq_true (by omega)) ?_
  refine WP.use1 (r_fail _ _ _ _ _ _ _ _ _) ?_
  exact WP.leaf (by rw [e])
theorem r_open (hX : LibX X) (x : ByteArray) (d : Nat) (hd : d ≤ 64) : Rdr X 89 [.box base 0, vS x] B1 d (d + 1) (gOpen x d) roU po1 := by
  intro E T t r hA hne
  refine DoesQ.of Tryz.func89 (by kernel_rfl) ?_
  refine WP.use1 (r_is1 x E T t d) ?_
  have e : runG (gOpen x d) (t :: r) = runG (match isT t x with | true => (match decide (64 ≤ d) with | true => .err 141 | false => .next (.ret ())) | false => .err 140) (t :: r) := rfl
  rw [e] at hne ⊢
  cases h : isT t x with
  | false =>
    refine WP.iteT rfl ?_
    refine WP.use1 (r_fail _ _ _ _ _ _ _ _ _) ?_
    exact WP.leaf ⟨t, r, T, t.k, t.a, _, t.s, d, rfl, by simpa using hA.n, rfl⟩
  | true =>
    refine WP.iteF rfl ?_
    rw [h] at hne
    by_cases h64 : 64 ≤ d
    · refine WP.use1 (r_enter_deep E T t r hA d h64 hd) ?_
      refine WP.leaf ?_
      simp only [decide_eq_true h64]
      exact ⟨t, r, T, t.k, t.a, _, t.s, _, rfl, by simpa using hA.n, rfl⟩
    · refine WP.use1 (r_enter E T t d (by omega)) ?_
      simp only [decide_eq_false h64] at hne ⊢
      refine Rdr.seq (B := B1) (p := .next (.ret (t.s, t.a))) (h := fun _ => .ret ()) (r_next hX E T t r hA (isT_k h) (d + 1)) hne ?_ ?_
      · intro x T t r hA hne
        exact WP.leaf ⟨T, t, r, rfl, hA, rfl⟩
      · rintro e q T k' a b y d2 o rfl; exact WP.leaf rfl
/-- a level opens, ahead of the rest: there was room for it -/
theorem Rdr.opened {β : Type} (hX : LibX X) {x : ByteArray} {d d'' : Nat} {po' : V → List V → Out → Prop} {ro' : β → List V → Out} {h : Unit → Gr β} {k : Out → Id.T Out} {E : Env} {T : Nat} {t : Tk} {r : List Tk} (hd : d ≤ 64) (hA : At E T t r) (hne : runG ((gOpen x d).bind h) (t :: r) ≠ .out)
    (hok : d < 64 → ∀ T' t' r', At E T' t' r' → runG (h ()) (t' :: r') ≠ .out → WP X (k (roU () (rdT E T' t' (d + 1)))) (Post E d'' ro' po' (runG (h ()) (t' :: r'))))
    (hpan : ∀ (e q T k' a b : Int) (y : ByteArray) (d2 : Int), WP X (k (.pan (stopV e q) [rd E.s E.F T k' a b y d2])) (po' (stopV e q) (rd E.s E.F T k' a b y d2))) :
    WP X (.call 89 [.box base 0, vS x] [rdT E T t d] k) (Post E d'' ro' po' (runG ((gOpen x d).bind h) (t :: r))) := by
  have h1 : runG (gOpen x d) (t :: r) ≠ .out := fun e => hne (by rw [runG_bind, e]; rfl)
  refine WP.use (r_open hX x d hd E T t r hA h1) fun o ho => ?_
  rw [runG_bind] at hne ⊢
  rcases Post.pan (h := fun x r => runG (h x) r) (d' := d'') (ro' := ro') (po' := po') ho hne with ⟨x', T', t', r', hr, hA', rfl⟩ | ⟨e, q, T', k', a, b, y, d2, rfl, hk⟩
  · rw [hr] at hne ⊢
    refine hok ?_ T' t' r' hA' hne
    have e : runG (gOpen x d) (t :: r) = runG (match isT t x with | true => (match decide (64 ≤ d) with | true => .err 141 | false => .next (.ret ())) | false => .err 140) (t :: r) := rfl
    rw [e] at hr
    cases hi : isT t x with
    | false => rw [hi] at hr; cases hr
    | true =>
      rw [hi] at hr
      by_cases h64 : 64 ≤ d
      · simp only [decide_eq_true h64] at hr; cases hr
      · omega
  · exact (hpan e q T' k' a b y d2).mono hk
theorem r_of (hX : LibX X) (k : Nat) (hk : k ≠ 0) (d : Nat) : Rdr X 59 [.box base 0, vI (k : Nat)] B1 d d (gOf k) roW po1 := by
  intro E T t r hA hne
  refine DoesQ.of Tryz.func59 (by kernel_rfl) ?_
  have e : runG (gOf k) (t :: r) = runG (match decide (t.k = k) with | true => .next (.ret (t.s, t.a)) | false => .err 140) (t :: r) := rfl
  rw [e] at hne ⊢
  by_cases h : t.k = k
  · refine WP.iteF (by simp [h]) ?_
    simp only [decide_eq_true h] at hne ⊢
    refine Rdr.seq (B := B1) (p := .next (.ret (t.s, t.a))) (h := fun x => .ret x) (r_next hX E T t r hA (by omega) d) hne ?_ ?_
    · intro x T t r hA hne
      exact WP.leaf ⟨T, t, r, rfl, hA, rfl⟩
    · rintro e q T k' a b y d2 o rfl; exact WP.leaf rfl
  · refine WP.iteT (by simp; omega) ?_
    refine WP.use1 (r_fail _ _ _ _ _ _ _ _ _) ?_
    refine WP.leaf ?_
    simp only [decide_eq_false h]
    exact ⟨t, r, T, t.k, t.a, _, t.s, d, rfl, by simpa using hA.n, rfl⟩
theorem r_kind (hX : LibX X) (d : Nat) : Rdr X 90 [.box base 0] B1 d d pType (fun x c => .ret (vI x) [c]) po1 := by
  intro E T t r hA hne
  refine DoesQ.of Tryz.func90 (by kernel_rfl) ?_
  refine WP.use1 (r_isA [kInt, kBool, kText] (by simp) E T t d) ?_
  have e : runG pType (t :: r) = runG (match isAny t [kInt, kBool, kText] with | true => .next (.ret (if t.s = kInt then (1 : Int) else if t.s = kBool then 2 else 3)) | false => .err 140) (t :: r) := rfl
  rw [e] at hne ⊢
  cases h : isAny t [kInt, kBool, kText] with
  | false =>
    refine WP.iteT rfl ?_
    refine WP.use1 (r_fail _ _ _ _ _ _ _ _ _) ?_
    exact WP.leaf ⟨t, r, T, t.k, t.a, _, t.s, d, rfl, by simpa using hA.n, rfl⟩
  | true =>
    refine WP.iteF rfl ?_
    rw [h] at hne
    refine Rdr.seq (B := B1) (p := .next (.ret (t.s, t.a))) (h := fun x => .ret (if x.1 = kInt then 1 else if x.1 = kBool then 2 else 3)) (r_next hX E T t r hA (isAny_k h) d) hne ?_ ?_
    · intro x T t r hA hne
      by_cases h1 : x.1 = kInt
      · refine WP.iteT (decide_eq_true h1) ?_
        exact WP.leaf ⟨T, t, r, rfl, hA, by simp only [if_pos h1]⟩
      refine WP.iteF (decide_eq_false h1) ?_
      by_cases h2 : x.1 = kBool
      · refine WP.iteT (decide_eq_true h2) ?_
        exact WP.leaf ⟨T, t, r, rfl, hA, by simp only [if_neg h1, if_pos h2]⟩
      refine WP.iteF (decide_eq_false h2) ?_
      exact WP.leaf ⟨T, t, r, rfl, hA, by simp only [if_neg h1, if_neg h2]⟩
    · rintro e q T k' a b y d2 o rfl; exact WP.leaf rfl
end Go.Proofs.YtacfbgfphkfobaaGreatDoor.Id
/-! ## PaEx -/
namespace Go.Proofs.YtacfbgfphkfobaaGreatDoor.Id
open Go
set_option linter.unusedVariables false
set_option linter.unusedSimpArgs false
variable {X : Given}
def TExpr.k : TExpr → Int | .mk k _ _ _ _ _ _ => k
def TExpr.a : TExpr → Int | .mk _ a _ _ _ _ _ => a
def TExpr.of : TExpr → ByteArray | .mk _ _ o _ _ _ _ => o
def TExpr.nm : TExpr → ByteArray | .mk _ _ _ n _ _ _ => n
def TExpr.v : TExpr → TVal | .mk _ _ _ _ v _ _ => v
def TExpr.op : TExpr → Int | .mk _ _ _ _ _ o _ => o
def TExpr.kids : TExpr → List TExpr | .mk _ _ _ _ _ _ l => l
abbrev cZ (z : Int) : D := .int .i64 z
mutual
def dsOf : TExpr → List D
  | .mk k a of nm v op kids => [cZ k, cZ a, .str of, .str nm, cZ v.t, cZ v.i, .bool v.b, .str v.s, cZ op, .sl 10 (dsAll kids)]
def dsAll : List TExpr → List (List D)
  | [] => []
  | x :: r => dsOf x :: dsAll r
end
/-- an expression's cells -/
abbrev eD (e : TExpr) : List D := [cZ e.k, cZ e.a, .str e.of, .str e.nm, cZ e.v.t, cZ e.v.i, .bool e.v.b, .str e.v.s, cZ e.op, .sl 10 (dsAll e.kids)]
theorem dsOf_eq (e : TExpr) : dsOf e = eD e := by cases e; rfl
theorem dsAll_cons (x : TExpr) (r : List TExpr) : dsAll (x :: r) = eD x :: dsAll r := by rw [dsAll, dsOf_eq]
theorem dsAll1 (x : TExpr) : dsAll [x] = [eD x] := by rw [dsAll_cons]; rfl
theorem dsAll2 (x y : TExpr) : dsAll [x, y] = [eD x, eD y] := by rw [dsAll_cons, dsAll_cons]; rfl
theorem dsAll_app : ∀ (a b : List TExpr), dsAll (a ++ b) = dsAll a ++ dsAll b
  | [], b => rfl
  | x :: r, b => by rw [List.cons_append, dsAll, dsAll, dsAll_app r b]; rfl
theorem dsAll_len : ∀ (a : List TExpr), (dsAll a).length = a.length
  | [] => rfl
  | x :: r => by rw [dsAll, List.length_cons, List.length_cons, dsAll_len r]
/-- an expression's cells in a box -/
abbrev eV (e : TExpr) : List V := [vI e.k, vI e.a, vS e.of, vS e.nm, vI e.v.t, vI e.v.i, vB e.v.b, vS e.v.s, vI e.op, .d (.sl 10 (dsAll e.kids))]
/-- a new box for an expression -/
abbrev e0V : List V := [vI 0, vI 0, vS .empty, vS .empty, vI 0, vI 0, vB false, vS .empty, vI 0, .d (.nil 10)]
theorem opGo_le : ∀ (l : List ByteArray) (s : ByteArray) (i : Nat), opGo l s i ≤ i + l.length
  | [], s, i => Nat.zero_le _
  | x :: r, s, i => by
    unfold opGo
    split
    · simp
    · have := opGo_le r s (i + 1); simp only [List.length_cons]; omega
theorem op_loop (s : ByteArray) (K : Ex → St → Id.T Out) (Q : Out → Prop) (hE : opOf s = 0 → WP X (K (.exit 0) ⟨[], []⟩) Q) (hR : ∀ i : Nat, opOf s = i → i ≠ 0 → WP X (K .ret ⟨[(2, vI i)], []⟩) Q) :
    ∀ (r : List ByteArray) (i : Nat), opSigns.drop i = r → opGo r s (i + 1) = opGo opSigns s 1 → i ≤ 14 → ∀ σ : St, getT σ.t 0 = vS s → getT σ.t 7 = .agg (cellS opSigns) → getT σ.t 8 = vI i → WP X (.loop (lp Tryz.f101 0) σ K) Q
  | r, i, h, he, hi, σ, g0, g7, g8 => by
    refine WP.round ⟨[(0, vS s), (7, .agg (cellS opSigns)), (8, vI i)], []⟩ ⟨⟨.inl g0.symm, .inl g7.symm, .inl g8.symm, trivial⟩, trivial⟩ ?_
    cases r with
    | nil =>
      have h1 : 14 ≤ i := drop_none h
      refine WP.iteF (decide_eq_false (by omega)) ?_
      exact WP.leaf ⟨⟨[], []⟩, ⟨trivial, trivial⟩, hE (by unfold opOf; rw [← he]; rfl)⟩
    | cons x r =>
      have h1 : i < 14 := (drop_some h).1
      refine WP.iteT (decide_eq_true (by omega)) ?_
      refine WP.idx _ (by omega) (cellS_get h) ?_
      refine WP.dec (fun hx => ?_) (fun hx => ?_)
      · refine WP.leaf ⟨⟨[(2, vI ((i + 1 : Nat) : Int))], []⟩, ⟨⟨.inl ?_, trivial⟩, trivial⟩, hR (i + 1) ?_ (by omega)⟩
        · show _ = vI (IntKind.i64.wrap (1 + (i : Int)))
          rw [show (1 : Int) + (i : Int) = ((i + 1 : Nat) : Int) by omega, wrapI (by omega) (by omega)]
        · unfold opOf; rw [← he]; unfold opGo; rw [decide_eq_true hx]
      · refine WP.leaf (op_loop s K Q hE hR r (i + 1) (drop_some h).2.2 ?_ (by omega) _ rfl rfl ?_)
        · rw [← he]; conv => rhs; unfold opGo
          rw [decide_eq_false hx]
        · show vI (IntKind.i64.wrap ((i : Int) + 1)) = _
          rw [wrapI (by omega) (by omega)]; rfl
theorem op_fn (s : ByteArray) : Does X 101 [vS s] [] (.ret (vI (opOf s)) []) := by
  refine DoesQ.eq (DoesQ.of Tryz.func101 (by kernel_rfl) ?_)
  refine op_loop s _ _ ?_ ?_ opSigns 0 rfl rfl (by omega) _ rfl rfl rfl
  · intro h; exact WP.leaf (by rw [h])
  · intro i h _; exact WP.leaf (by rw [h])
end Go.Proofs.YtacfbgfphkfobaaGreatDoor.Id
/-! ## IdealX -/
namespace Go.Proofs.YtacfbgfphkfobaaGreatDoor.Id
open Go
set_option linter.unusedVariables false
section
variable {I : World → Prop} {P : Program} {tt : TT} {X : Given}
/-- all cells that are there -/
def seen (w : World) : Aux := ⟨fun k o => if k < w.heap.size then w.cell? ⟨k, o, none⟩ else none, fun _ => 0, fun _ => none⟩
theorem seen_wsim {w : World} (hI : I w) : WSim I w.heap.size (fun k => w.heap.size ≤ k) (seen w) [] w :=
  { inv := hI
    big := fun _ h => h
    top := fun _ h => h
    agree := fun k o v h => by
      simp only [seen] at h
      split at h
      · exact h
      · cases h
    box := fun i cs h => by cases h
    inj := fun i j cs ds h => by cases h
    zone := fun t k s e h => by cases h
    zinj := fun t t' k s e s' e' h => by cases h
    zbox := fun t k s e i cs h => by cases h }
/-- a call that the ideal machine brings to true -/
theorem row_of (hm : P.follows .mixedOrders = true) (htt : TTok P tt) {w : World} (hS : Stable I w.heap.size) (hX : GivenOK P X I w.heap.size) (hI : I w) {f : FuncId} {fn : Func} {args : List V} (hf : P.funcs[f]? = some fn) {vs : Array Value} (hargs : RepVs (seen w) args vs.toList)
    {G : Option (List Nat)} (h : Den P tt X (evBody tt G fn args []) (.ret (.d (.bool true)) [])) : Calls P f vs w fun e w' => e = .returned (.bool true) ∧ Go.RowKit.Below w.heap.size w w' := by
  refine (sound hm htt hS hX hf h _ (seen w) w vs hargs (seen_wsim hI)).mono fun e w' ⟨x', hE, rv, he, hr, _⟩ => ?_
  refine ⟨?_, ⟨hE.os, hE.tape, hE.output, hE.size, fun k hk => hE.blk k (by omega)⟩⟩
  rw [he]
  have : RepD x'.h rv (.bool true) := hr
  cases this
  rfl
end
end Go.Proofs.YtacfbgfphkfobaaGreatDoor.Id
/-! ## PaRow -/
namespace Go.Proofs.YtacfbgfphkfobaaGreatDoor.Id
open Go
set_option linter.unusedVariables false
set_option linter.unusedSimpArgs false
variable {X : Given}
abbrev roE (e : TExpr) (c : List V) : Out := .ret (.agg (eD e)) [c]
/-- the reader's variable ahead of the reader -/
abbrev B2 (c : List V) : List (List V) := [[.box (base + 1) 0], c]
abbrev roE2 (e : TExpr) (c : List V) : Out := .ret (.agg (eD e)) [[.box (base + 1) 0], c]
abbrev po2 (v : V) (c : List V) (o : Out) : Prop := o = .pan v [[.box (base + 1) 0], c]
/-- the reader ahead of its variable -/
abbrev B3 (c : List V) : List (List V) := [c, [.box base 0]]
abbrev roE3 (e : TExpr) (c : List V) : Out := .ret (.agg (eD e)) [c, [.box base 0]]
abbrev po3 (v : V) (c : List V) (o : Out) : Prop := o = .pan v [c, [.box base 0]]
theorem WP.finPan2 {fn : Func} {σ : St} {e q : Int} {s : ByteArray} {F T k a b : Int} {y : ByteArray} {d : Int} (gb : getB σ.b base = some (rd s F T k a b y d)) (gp : getB σ.b (base + 1) = some [.box base 0]) : WP X (fin tt fn 2 (.pan (stopV e q), σ)) (po3 (stopV e q) (rd s F T k a b y d)) := by
  have h : outB σ 2 2 = some [rd s F T k a b y d, [.box base 0]] := by
    have e : getB σ.b (base + (2 - (1 + 1))) = some (rd s F T k a b y d) := gb
    have e1 : getB σ.b (base + (2 - (0 + 1))) = some [.box base 0] := gp
    simp only [outB]
    rw [e, e1]; rfl
  unfold fin
  rw [h]
  exact WP.leaf rfl
set_option maxHeartbeats 1000000

/-- operators of one line, behind the first operand (a method value) -/
theorem row_loopA (hX : LibX X) (g : FuncId) (d k : Nat) (hk : k ≠ 2) (hk4 : k ≤ 4) : ∀ (n : Nat), (∀ m, m < n → Rdr X g [.box base 0] B1 d d (pLine m (k + 1) d) roE po1) →
    ∀ (E : Env) (K : Ex → St → Id.T Out) (hE : ∀ T t r e, At E T t r → WP X (K (.exit 0) ⟨[(0, .box base 0), (6, .box 6 0), (7, .box 7 0)], [(base, rdT E T t d), (6, e0V), (7, eV e)]⟩) (Post E d roE po1 (.ok e (t :: r))))
      (hP : ∀ (e q T k a b : Int) (y : ByteArray) (d2 : Int) (σ : St), getB σ.b base = some (rd E.s E.F T k a b y d2) → WP X (K (.pan (stopV e q)) σ) (po1 (stopV e q) (rd E.s E.F T k a b y d2)))
      (T : Nat) (t : Tk) (r : List Tk) (e : TExpr), At E T t r → runG (pTail n k d e) (t :: r) ≠ .out → ∀ σ : St, getT σ.t 0 = .box base 0 → getT σ.t 1 = .fn g [.box base 0] [] → getT σ.t 2 = .d (.sl 1 (rowS (signs k))) → getT σ.t 6 = .box 6 0 → getT σ.t 7 = .box 7 0 →
      getB σ.b base = some (rdT E T t d) → getB σ.b 6 = some e0V → getB σ.b 7 = some (eV e) → WP X (.loop (lp Tryz.f67 0) σ K) (Post E d roE po1 (runG (pTail n k d e) (t :: r)))
  | 0, _, E, K, hE, hP, T, t, r, e, hA, hne, σ, _, _, _, _, _, _, _, _ => absurd rfl hne
  | n + 1, hone, E, K, hE, hP, T, t, r, e, hA, hne, σ, g0, g1, g2, g6, g7, gb, b6, b7 => by
    have hk2 : decide (k = 2) = false := decide_eq_false hk
    have hl : (signs k).length ≤ 1048576 := by unfold signs; split <;> simp
    have e1 : runG (pTail (n + 1) k d e) (t :: r) = runG (match isAny t (signs k) with | true => .next ((pLine n (k + 1) d).bind fun e2 => pTail n k d (bin t.a t.s e e2)) | false => .ret e) (t :: r) := by
      show runG (match isAny t (signs k) with | true => .next ((pLine n (k + 1) d).bind fun e2 => match decide (k = 2) with | true => .ret (bin t.a t.s e e2) | false => pTail n k d (bin t.a t.s e e2)) | false => .ret e) (t :: r) = _
      rw [hk2]
    rw [e1] at hne ⊢
    refine WP.round ⟨[(0, .box base 0), (1, .fn g [.box base 0] []), (2, .d (.sl 1 (rowS (signs k)))), (6, .box 6 0), (7, .box 7 0)], [(base, rdT E T t d), (6, e0V), (7, eV e)]⟩
      ⟨⟨.inl g0.symm, .inl g1.symm, .inl g2.symm, .inl g6.symm, .inl g7.symm, trivial⟩, ⟨WkB.box gb, WkB.box b6, WkB.box b7, trivial⟩⟩ ?_
    refine WP.use1 (r_isA (signs k) hl E T t d) ?_
    cases h : isAny t (signs k) with
    | false =>
      refine WP.iteF rfl ?_
      refine WP.leaf ⟨⟨[(0, .box base 0), (6, .box 6 0), (7, .box 7 0)], [(base, rdT E T t d), (6, e0V), (7, eV e)]⟩, ⟨⟨.inl rfl, .inl rfl, .inl rfl, trivial⟩, ⟨WkB.box rfl, WkB.box rfl, WkB.box rfl, trivial⟩⟩, hE T t r e hA⟩
    | true =>
      refine WP.iteT rfl ?_
      rw [h] at hne
      refine Rdr.seqL (B := B1) (p := .next (.ret (t.s, t.a))) (h := fun x => (pLine n (k + 1) d).bind fun e2 => pTail n k d (bin x.2 x.1 e e2)) (r_next hX E T t r hA (isAny_k h) d) hne ?_ ?_
      · intro x T t r hA hne
        refine WP.asrt (by kernel_rfl) ?_
        refine WP.use1 (op_fn x.1) ?_
        refine Rdr.useL (B := B1) (hone n (Nat.lt_succ_self n)) hA hne ?_ ?_
        · intro e2 T t r hA hne
          refine WP.asrt (by kernel_rfl) ?_
          refine WP.leaf (row_loopA hX g d k hk hk4 n (fun m hm => hone m (by omega)) E K hE hP T t r (bin x.2 x.1 e e2) hA hne _ rfl rfl rfl rfl rfl rfl rfl ?_)
          show some _ = some [_, _, _, _, _, _, _, _, _, V.d (.sl 10 (dsAll [e, e2]))]
          rw [dsAll2]; rfl
        · rintro z q T k' a b y d2 o rfl
          refine WP.asrt (by kernel_rfl) ?_
          exact WP.leaf (hP _ _ _ _ _ _ _ _ _ rfl)
      · rintro z q T k' a b y d2 o rfl
        exact WP.leaf (hP _ _ _ _ _ _ _ _ _ rfl)
theorem r_rowA (hX : LibX X) (g : FuncId) (d k : Nat) (hk : k ≠ 2) (hk4 : k ≤ 4) (n : Nat) (hone : ∀ m, m < n + 1 → Rdr X g [.box base 0] B1 d d (pLine m (k + 1) d) roE po1) :
    Rdr X 67 [.box base 0, .fn g [.box base 0] [], .d (.sl 1 (rowS (signs k)))] B1 d d (pLine (n + 1) k d) roE po1 := by
  intro E T t r hA hne
  have h5 : decide (k = 5) = false := decide_eq_false (by omega)
  have e1 : pLine (n + 1) k d = (pLine n (k + 1) d).bind fun e => pTail n k d e := by
    show (match decide (k = 5) with | true => pUnary n d | false => (pLine n (k + 1) d).bind fun e => pTail n k d e) = _
    rw [h5]
  rw [e1] at hne ⊢
  refine DoesQ.of Tryz.func67 (by kernel_rfl) ?_
  refine Rdr.use (B := B1) (hone n (Nat.lt_succ_self n)) hA hne ?_ ?_
  · intro e T t r hA hne
    refine row_loopA hX g d k hk hk4 n (fun m hm => hone m (by omega)) E _ ?_ ?_ T t r e hA hne _ rfl rfl rfl rfl rfl rfl rfl rfl
    · intro T t r e hA
      exact WP.leaf ⟨T, t, r, rfl, hA, rfl⟩
    · intro z q T k a b y d2 σ gb
      exact WP.finPan1 gb
  · rintro z q T k' a b y d2 o rfl
    exact WP.leaf rfl

/-- operators of one line, behind the first operand (a closure) -/
theorem row_loopB (hX : LibX X) (g : FuncId) (d k : Nat) (hk : k ≠ 2) (hk4 : k ≤ 4) : ∀ (n : Nat), (∀ m, m < n → Rdr X g [.box base 0] B2 d d (pLine m (k + 1) d) roE2 po2) →
    ∀ (E : Env) (K : Ex → St → Id.T Out) (hE : ∀ T t r e, At E T t r → WP X (K (.exit 0) ⟨[(0, .box base 0), (6, .box 6 0), (7, .box 7 0)], [(base, rdT E T t d), (base + 1, [.box base 0]), (6, e0V), (7, eV e)]⟩) (Post E d roE3 po3 (.ok e (t :: r))))
      (hP : ∀ (e q T k a b : Int) (y : ByteArray) (d2 : Int) (σ : St), getB σ.b base = some (rd E.s E.F T k a b y d2) → getB σ.b (base + 1) = some [.box base 0] → WP X (K (.pan (stopV e q)) σ) (po3 (stopV e q) (rd E.s E.F T k a b y d2)))
      (T : Nat) (t : Tk) (r : List Tk) (e : TExpr), At E T t r → runG (pTail n k d e) (t :: r) ≠ .out → ∀ σ : St, getT σ.t 0 = .box base 0 → getT σ.t 1 = .fn g [] [.box (base + 1) 0] → getT σ.t 2 = .d (.sl 1 (rowS (signs k))) → getT σ.t 6 = .box 6 0 → getT σ.t 7 = .box 7 0 →
      getB σ.b base = some (rdT E T t d) → getB σ.b (base + 1) = some [.box base 0] → getB σ.b 6 = some e0V → getB σ.b 7 = some (eV e) → WP X (.loop (lp Tryz.f67 0) σ K) (Post E d roE3 po3 (runG (pTail n k d e) (t :: r)))
  | 0, _, E, K, hE, hP, T, t, r, e, hA, hne, σ, _, _, _, _, _, _, _, _, _ => absurd rfl hne
  | n + 1, hone, E, K, hE, hP, T, t, r, e, hA, hne, σ, g0, g1, g2, g6, g7, gb, gp, b6, b7 => by
    have hk2 : decide (k = 2) = false := decide_eq_false hk
    have hl : (signs k).length ≤ 1048576 := by unfold signs; split <;> simp
    have e1 : runG (pTail (n + 1) k d e) (t :: r) = runG (match isAny t (signs k) with | true => .next ((pLine n (k + 1) d).bind fun e2 => pTail n k d (bin t.a t.s e e2)) | false => .ret e) (t :: r) := by
      show runG (match isAny t (signs k) with | true => .next ((pLine n (k + 1) d).bind fun e2 => match decide (k = 2) with | true => .ret (bin t.a t.s e e2) | false => pTail n k d (bin t.a t.s e e2)) | false => .ret e) (t :: r) = _
      rw [hk2]
    rw [e1] at hne ⊢
    refine WP.round ⟨[(0, .box base 0), (1, .fn g [] [.box (base + 1) 0]), (2, .d (.sl 1 (rowS (signs k)))), (6, .box 6 0), (7, .box 7 0)], [(base, rdT E T t d), (base + 1, [.box base 0]), (6, e0V), (7, eV e)]⟩
      ⟨⟨.inl g0.symm, .inl g1.symm, .inl g2.symm, .inl g6.symm, .inl g7.symm, trivial⟩, ⟨WkB.box gb, WkB.box gp, WkB.box b6, WkB.box b7, trivial⟩⟩ ?_
    refine WP.use1 (r_isA (signs k) hl E T t d) ?_
    cases h : isAny t (signs k) with
    | false =>
      refine WP.iteF rfl ?_
      refine WP.leaf ⟨⟨[(0, .box base 0), (6, .box 6 0), (7, .box 7 0)], [(base, rdT E T t d), (base + 1, [.box base 0]), (6, e0V), (7, eV e)]⟩, ⟨⟨.inl rfl, .inl rfl, .inl rfl, trivial⟩, ⟨WkB.box rfl, WkB.box rfl, WkB.box rfl, WkB.box rfl, trivial⟩⟩, hE T t r e hA⟩
    | true =>
      refine WP.iteT rfl ?_
      rw [h] at hne
      refine Rdr.seqL (B := B1) (p := .next (.ret (t.s, t.a))) (h := fun x => (pLine n (k + 1) d).bind fun e2 => pTail n k d (bin x.2 x.1 e e2)) (r_next hX E T t r hA (isAny_k h) d) hne ?_ ?_
      · intro x T t r hA hne
        refine WP.asrt (by kernel_rfl) ?_
        refine WP.use1 (op_fn x.1) ?_
        refine Rdr.useL (B := B2) (hone n (Nat.lt_succ_self n)) hA hne ?_ ?_
        · intro e2 T t r hA hne
          refine WP.asrt (by kernel_rfl) ?_
          refine WP.leaf (row_loopB hX g d k hk hk4 n (fun m hm => hone m (by omega)) E K hE hP T t r (bin x.2 x.1 e e2) hA hne _ rfl rfl rfl rfl rfl rfl rfl rfl ?_)
          show some _ = some [_, _, _, _, _, _, _, _, _, V.d (.sl 10 (dsAll [e, e2]))]
          rw [dsAll2]; rfl
        · rintro z q T k' a b y d2 o rfl
          refine WP.asrt (by kernel_rfl) ?_
          exact WP.leaf (hP _ _ _ _ _ _ _ _ _ rfl rfl)
      · rintro z q T k' a b y d2 o rfl
        exact WP.leaf (hP _ _ _ _ _ _ _ _ _ rfl rfl)
theorem r_rowB (hX : LibX X) (g : FuncId) (d k : Nat) (hk : k ≠ 2) (hk4 : k ≤ 4) (n : Nat) (hone : ∀ m, m < n + 1 → Rdr X g [.box base 0] B2 d d (pLine m (k + 1) d) roE2 po2) :
    Rdr X 67 [.box base 0, .fn g [] [.box (base + 1) 0], .d (.sl 1 (rowS (signs k)))] B3 d d (pLine (n + 1) k d) roE3 po3 := by
  intro E T t r hA hne
  have h5 : decide (k = 5) = false := decide_eq_false (by omega)
  have e1 : pLine (n + 1) k d = (pLine n (k + 1) d).bind fun e => pTail n k d e := by
    show (match decide (k = 5) with | true => pUnary n d | false => (pLine n (k + 1) d).bind fun e => pTail n k d e) = _
    rw [h5]
  rw [e1] at hne ⊢
  refine DoesQ.of Tryz.func67 (by kernel_rfl) ?_
  refine Rdr.use (B := B2) (hone n (Nat.lt_succ_self n)) hA hne ?_ ?_
  · intro e T t r hA hne
    refine row_loopB hX g d k hk hk4 n (fun m hm => hone m (by omega)) E _ ?_ ?_ T t r e hA hne _ rfl rfl rfl rfl rfl rfl rfl rfl rfl
    · intro T t r e hA
      exact WP.leaf ⟨T, t, r, rfl, hA, rfl⟩
    · intro z q T k a b y d2 σ gb gp
      exact WP.finPan2 gb gp
  · rintro z q T k' a b y d2 o rfl
    exact WP.leaf rfl
end Go.Proofs.YtacfbgfphkfobaaGreatDoor.Id
/-! ## PaLine -/
namespace Go.Proofs.YtacfbgfphkfobaaGreatDoor.Id
open Go
set_option linter.unusedVariables false
set_option linter.unusedSimpArgs false
set_option maxHeartbeats 1000000
variable {X : Given}
/-- a function of the reader does a line of the grammar, with so many rounds -/
abbrev LineA (X : Given) (g : FuncId) (k n : Nat) : Prop := ∀ d, d ≤ 64 → Rdr X g [.box base 0] B1 d d (pLine n k d) roE po1
abbrev LineB (X : Given) (g : FuncId) (k n : Nat) : Prop := ∀ d, d ≤ 64 → Rdr X g [.box base 0] B2 d d (pLine n k d) roE2 po2
abbrev UnaryA (X : Given) (n : Nat) : Prop := ∀ d, d ≤ 64 → Rdr X 129 [.box base 0] B1 d d (pUnary n d) roE po1
theorem Rdr.out {α : Type} {g : FuncId} {args : List V} {B : List V → List (List V)} {d d' : Nat} {ro : α → List V → Out} {po : V → List V → Out → Prop} : Rdr X g args B d d' (.out : Gr α) ro po := fun E T t r hA hne => absurd rfl hne
theorem bind_ret {α : Type} (p : Gr α) : p = p.bind fun x => .ret x := by
  induction p with
  | ret x => rfl
  | look f ih => simp only [Gr.bind]; congr 1; funext t; exact ih t
  | next g ih => simp only [Gr.bind]; rw [← ih]
  | err e => rfl
  | out => rfl
theorem line5 {n : Nat} (h : ∀ m, m < n → UnaryA X m) : LineA X 129 5 n := fun d hd => by
  cases n with
  | zero => exact Rdr.out
  | succ n => exact h n (Nat.lt_succ_self n) d hd
theorem line4 (hX : LibX X) {n : Nat} (h : ∀ m, m < n → LineA X 129 5 m) : LineB X 128 4 n := fun d hd => by
  cases n with
  | zero => exact Rdr.out
  | succ n =>
    intro E T t r hA hne
    refine DoesQ.of Tryz.func128 (by kernel_rfl) ?_
    rw [bind_ret (pLine (n + 1) 4 d)] at hne ⊢
    refine Rdr.use (B := B1) (r_rowA hX 129 d 4 (by omega) (by omega) n fun m hm => h m hm d hd) hA hne ?_ ?_
    · intro e T t r hA hne
      exact WP.leaf ⟨T, t, r, rfl, hA, rfl⟩
    · rintro z q T k' a b y d2 o rfl
      exact WP.leaf rfl
theorem line3 (hX : LibX X) {n : Nat} (h : ∀ m, m < n → LineB X 128 4 m) : LineA X 102 3 n := fun d hd => by
  cases n with
  | zero => exact Rdr.out
  | succ n =>
    intro E T t r hA hne
    refine DoesQ.of Tryz.func102 (by kernel_rfl) ?_
    rw [bind_ret (pLine (n + 1) 3 d)] at hne ⊢
    refine Rdr.use (B := B3) (r_rowB hX 128 d 3 (by omega) (by omega) n fun m hm => h m hm d hd) hA hne ?_ ?_
    · intro e T t r hA hne
      exact WP.leaf ⟨T, t, r, rfl, hA, rfl⟩
    · rintro z q T k' a b y d2 o rfl
      exact WP.leaf rfl
theorem line2 (hX : LibX X) {n : Nat} (h : ∀ m, m < n → LineA X 102 3 m) : LineA X 69 2 n := fun d hd => by
  cases n with
  | zero => exact Rdr.out
  | succ n =>
    intro E T t r hA hne
    refine DoesQ.of Tryz.func69 (by kernel_rfl) ?_
    have e1 : pLine (n + 1) 2 d = (pLine n 3 d).bind fun e => pTail n 2 d e := rfl
    rw [e1] at hne ⊢
    refine Rdr.use (B := B1) (h n (Nat.lt_succ_self n) d hd) hA hne ?_ ?_
    · intro e T t r hA hne
      cases n with
      | zero => exact absurd rfl hne
      | succ n =>
        refine WP.use1 (r_isA (signs 2) (by simp [signs]) E T t d) ?_
        have e2 : runG (pTail (n + 1) 2 d e) (t :: r) = runG (match isAny t (signs 2) with | true => .next ((pLine n 3 d).bind fun e2 => .ret (bin t.a t.s e e2)) | false => .ret e) (t :: r) := rfl
        rw [e2] at hne ⊢
        cases hs : isAny t (signs 2) with
        | false =>
          refine WP.iteF rfl ?_
          exact WP.leaf ⟨T, t, r, rfl, hA, rfl⟩
        | true =>
          refine WP.iteT rfl ?_
          rw [hs] at hne
          refine Rdr.seq (B := B1) (p := .next (.ret (t.s, t.a))) (h := fun x => (pLine n 3 d).bind fun e2 => .ret (bin x.2 x.1 e e2)) (r_next hX E T t r hA (isAny_k hs) d) hne ?_ ?_
          · intro x T t r hA hne
            refine WP.asrt (by kernel_rfl) ?_
            refine WP.use1 (op_fn x.1) ?_
            refine Rdr.use (B := B1) (h n (by omega) d hd) hA hne ?_ ?_
            · intro e2 T t r hA hne
              refine WP.asrt (by kernel_rfl) ?_
              refine WP.leaf ⟨T, t, r, rfl, hA, ?_⟩
              show Out.ret (.agg [_, _, _, _, _, _, _, _, _, .sl 10 [eD e, eD e2]]) _ = Out.ret (.agg [_, _, _, _, _, _, _, _, _, .sl 10 (dsAll [e, e2])]) _
              rw [dsAll2]; rfl
            · rintro z q T k' a b y d2 o rfl
              refine WP.asrt (by kernel_rfl) ?_
              exact WP.leaf rfl
          · rintro z q T k' a b y d2 o rfl
            exact WP.leaf rfl
    · rintro z q T k' a b y d2 o rfl
      exact WP.leaf rfl
theorem line1 (hX : LibX X) {n : Nat} (h : ∀ m, m < n → LineA X 69 2 m) : LineB X 68 1 n := fun d hd => by
  cases n with
  | zero => exact Rdr.out
  | succ n =>
    intro E T t r hA hne
    refine DoesQ.of Tryz.func68 (by kernel_rfl) ?_
    rw [bind_ret (pLine (n + 1) 1 d)] at hne ⊢
    refine Rdr.use (B := B1) (r_rowA hX 69 d 1 (by omega) (by omega) n fun m hm => h m hm d hd) hA hne ?_ ?_
    · intro e T t r hA hne
      exact WP.leaf ⟨T, t, r, rfl, hA, rfl⟩
    · rintro z q T k' a b y d2 o rfl
      exact WP.leaf rfl
theorem line0 (hX : LibX X) {n : Nat} (h : ∀ m, m < n → LineB X 68 1 m) : LineA X 35 0 n := fun d hd => by
  cases n with
  | zero => exact Rdr.out
  | succ n =>
    intro E T t r hA hne
    refine DoesQ.of Tryz.func35 (by kernel_rfl) ?_
    rw [bind_ret (pLine (n + 1) 0 d)] at hne ⊢
    refine Rdr.use (B := B3) (r_rowB hX 68 d 0 (by omega) (by omega) n fun m hm => h m hm d hd) hA hne ?_ ?_
    · intro e T t r hA hne
      exact WP.leaf ⟨T, t, r, rfl, hA, rfl⟩
    · rintro z q T k' a b y d2 o rfl
      exact WP.leaf rfl
abbrev PrimA (X : Given) (n : Nat) : Prop := ∀ d, d ≤ 64 → Rdr X 143 [.box base 0] B1 d d (pPrim n d) roE po1
theorem unary_step (hX : LibX X) {n : Nat} (h : ∀ m, m < n → UnaryA X m) (hp : ∀ m, m < n → PrimA X m) : UnaryA X n := fun d hd => by
  cases n with
  | zero => exact Rdr.out
  | succ n =>
    intro E T t r hA hne
    refine DoesQ.of Tryz.func129 (by kernel_rfl) ?_
    refine WP.use1 (r_isA unSigns (by simp [unSigns]) E T t d) ?_
    have e1 : runG (pUnary (n + 1) d) (t :: r) = runG (match isAny t unSigns with | true => (match decide (64 ≤ d) with | true => .err 141 | false => .next ((pUnary n (d + 1)).bind fun e => .ret (una t.a t.s e))) | false => pPrim n d) (t :: r) := rfl
    rw [e1] at hne ⊢
    cases hs : isAny t unSigns with
    | false =>
      refine WP.iteT rfl ?_
      rw [hs] at hne
      simp only at hne ⊢
      rw [bind_ret (pPrim n d)] at hne ⊢
      refine Rdr.use (B := B1) (hp n (Nat.lt_succ_self n) d hd) hA hne ?_ ?_
      · intro e T t r hA hne
        exact WP.leaf ⟨T, t, r, rfl, hA, rfl⟩
      · rintro z q T k' a b y d2 o rfl
        exact WP.leaf rfl
    | true =>
      refine WP.iteF rfl ?_
      rw [hs] at hne
      by_cases h64 : 64 ≤ d
      · refine WP.use1 (r_enter_deep E T t r hA d h64 hd) ?_
        refine WP.leaf ?_
        simp only [decide_eq_true h64]
        exact ⟨t, r, T, t.k, t.a, _, t.s, _, rfl, by simpa using hA.n, rfl⟩
      · refine WP.use1 (r_enter E T t d (by omega)) ?_
        simp only [decide_eq_false h64] at hne ⊢
        refine Rdr.seq (B := B1) (p := .next (.ret (t.s, t.a))) (h := fun x => (pUnary n (d + 1)).bind fun e => .ret (una x.2 x.1 e)) (r_next hX E T t r hA (isAny_k hs) (d + 1)) hne ?_ ?_
        · intro x T t r hA hne
          have go : ∀ (z : Int), unOp x.1 = z → ∀ (k : Out → Id.T Out), (∀ e T t, WP X (k (roE e (rdT E T t (d + 1)))) fun o => o = .ret (.agg [cZ 4, cZ x.2, .str .empty, .str .empty, cZ 0, cZ 0, .bool false, .str .empty, cZ z, .sl 10 [eD e]]) [rd E.s E.F T t.k t.a ((t.a + t.s.size : Nat) : Int) t.s (IntKind.i64.wrap (((d + 1 : Nat) : Int) - 1))]) →
              (∀ (z q T k' a b : Int) (y : ByteArray) (d2 : Int), WP X (k (.pan (stopV z q) [rd E.s E.F T k' a b y d2])) (po1 (stopV z q) (rd E.s E.F T k' a b y d2))) →
              WP X (.call 129 [.box base 0] [rdT E T t (d + 1)] k) (Post E d roE po1 (runG ((pUnary n (d + 1)).bind fun e => .ret (una x.2 x.1 e)) (t :: r))) := fun z hz k hk hpk => by
            refine Rdr.use (B := B1) (h n (Nat.lt_succ_self n) (d + 1) (by omega)) hA hne ?_ ?_
            · intro e T t r hA hne
              refine WP.mono (hk e T t) ?_
              rintro o rfl
              refine ⟨T, t, r, rfl, hA, ?_⟩
              show _ = Out.ret (.agg [_, _, _, _, _, _, _, _, cZ (unOp x.1), .sl 10 (dsAll [e])]) _
              rw [dsAll1, hz, show (((d + 1 : Nat) : Int) - 1) = (d : Int) by omega, wrapI (by omega) (by omega)]; rfl
            · rintro z q T k' a b y d2 o rfl
              exact hpk z q T k' a b y d2
          by_cases h1 : x.1 = mkB [45]
          · refine WP.iteT (decide_eq_true h1) ?_
            refine go 15 (by unfold unOp; rw [if_pos h1]) _ ?_ ?_
            · intro e T t; exact WP.leaf rfl
            · intro z q T k' a b y d2; exact WP.leaf rfl
          refine WP.iteF (decide_eq_false h1) ?_
          by_cases h2 : x.1 = mkB [33]
          · refine WP.iteT (decide_eq_true h2) ?_
            refine go 16 (by unfold unOp; rw [if_neg h1, if_pos h2]) _ ?_ ?_
            · intro e T t; exact WP.leaf rfl
            · intro z q T k' a b y d2; exact WP.leaf rfl
          · refine WP.iteF (decide_eq_false h2) ?_
            refine go 17 (by unfold unOp; rw [if_neg h1, if_neg h2]) _ ?_ ?_
            · intro e T t; exact WP.leaf rfl
            · intro z q T k' a b y d2; exact WP.leaf rfl
        · rintro z q T k' a b y d2 o rfl
          exact WP.leaf rfl
end Go.Proofs.YtacfbgfphkfobaaGreatDoor.Id
/-! ## PaPrim -/
namespace Go.Proofs.YtacfbgfphkfobaaGreatDoor.Id
open Go
set_option linter.unusedVariables false
set_option linter.unusedSimpArgs false
set_option maxHeartbeats 1000000
set_option maxRecDepth 100000
variable {X : Given}
/-! ### numbers and texts -/
theorem tok_num {l : List UInt8} (h : tok l = (2, l.length, 0)) : numOk l = true ∧ l.all isD = true ∧ l ≠ [] := by
  cases l with
  | nil => cases h
  | cons c r =>
    change tokC c r = _ at h
    unfold tokC at h
    split at h
    · split at h
      · cases h
      · split at h <;> (have := congrArg (fun x : Nat × Nat × Nat => x.1) h; cases this)
    · split at h
      · split at h
        · rename_i h3
          have hn : ((c :: r).takeWhile isD).length = (c :: r).length := congrArg (fun x : Nat × Nat × Nat => x.2.1) h
          have ht := tw_take isD (c :: r)
          rw [hn, List.take_length] at ht
          simp only [Bool.and_eq_true] at h3
          rw [hn, List.take_length] at h3
          refine ⟨h3.1, ?_, by simp⟩
          rw [ht]; exact tw_all isD (c :: r)
        · cases h
      · split at h
        · split at h
          · cases h
          · have := congrArg (fun x : Nat × Nat × Nat => x.1) h; cases this
        · split at h
          · cases h
          · have := congrArg (fun x : Nat × Nat × Nat => x.1) h; cases this
theorem tok_txt {l : List UInt8} (h : tok l = (3, l.length, 0)) : ∃ c r t, l = c :: r ∧ c.toNat = 34 ∧ quo r = some (t, l.length) := by
  cases l with
  | nil => cases h
  | cons c r =>
    change tokC c r = _ at h
    unfold tokC at h
    split at h
    · split at h
      · cases h
      · split at h <;> (have := congrArg (fun x : Nat × Nat × Nat => x.1) h; cases this)
    · split at h
      · split at h
        · have := congrArg (fun x : Nat × Nat × Nat => x.1) h; cases this
        · cases h
      · split at h
        · rename_i h3
          split at h
          · cases h
          · rename_i t n hq
            have hn : n = (c :: r).length := congrArg (fun x : Nat × Nat × Nat => x.2.1) h
            exact ⟨c, r, t, rfl, h3, by rw [hq, hn]⟩
        · split at h
          · cases h
          · have := congrArg (fun x : Nat × Nat × Nat => x.1) h; cases this
theorem just_of {s : ByteArray} {k : Nat} (h : tok (L s) = (k, s.size, 0)) : just (L s) k = true := by
  have hne : L s ≠ [] := fun e => by
    have h1 := L_length s
    rw [e] at h h1
    have h2 := congrArg (fun x : Nat × Nat × Nat => x.2.2) h
    cases h2
  unfold just
  rw [h, L_length, decide_eq_true hne]
  simp
theorem lnumber (hX : LibX X) (s : ByteArray) (hs : s.size ≤ 1048576) (h : tok (L s) = (2, s.size, 0)) : Does X 151 [vS s] [] (.ret (.tuple [vI (numZ s), vI 0]) []) := by
  obtain ⟨h1, h2, h3⟩ := tok_num (l := L s) (by rw [L_length]; exact h)
  obtain ⟨v, hw, hv⟩ := lwhole hX s hs h2 h3
  refine DoesQ.eq (DoesQ.of Tryz.func151 (by kernel_rfl) ?_)
  refine WP.use1 (ljust hX s hs 2) ?_
  rw [just_of h]
  refine WP.iteF rfl ?_
  refine WP.use1 hw ?_
  refine WP.leaf ?_
  rw [hv h1]
  show _ = Out.ret (.tuple [vI (numR (L s)).1, vI 0]) []
  unfold numR
  rw [if_pos h1]
theorem ltext (s : ByteArray) (hs : s.size ≤ 1048576) (h : tok (L s) = (3, s.size, 0)) : Does X 60 [vS s] [] (.ret (.tuple [vS (txtZ s), vI 0]) []) := by
  obtain ⟨c, r, t, hl, hc, hq⟩ := tok_txt (l := L s) (by rw [L_length]; exact h)
  have hlq := lquoted (X := X) s hs
  rw [hl] at hlq
  simp only [if_pos hc] at hlq
  rw [hq] at hlq
  have hz : (L s).length = s.size := L_length s
  refine DoesQ.eq (DoesQ.of Tryz.func60 (by kernel_rfl) ?_)
  refine WP.use1 hlq ?_
  have hne : (L s).length ≠ 0 := by rw [hl]; simp
  refine WP.iteF (decide_eq_false (by dsimp only; omega)) ?_
  refine WP.iteF (by rw [hz]; exact (by simp : (!decide ((s.size : Int) = (s.size : Int))) = false)) ?_
  refine WP.leaf ?_
  show _ = Out.ret (.tuple [vS (txtZ s), vI 0]) []
  unfold txtZ
  rw [hl]
  simp only [if_pos hc]
  rw [hq]
  simp only
  rw [if_pos (by rw [hl]; rfl)]
abbrev ArgsA (X : Given) (n : Nat) : Prop := ∀ d, d ≤ 64 → Rdr X 150 [.box base 0] B1 d d (pArgs n d) (fun l c => .ret (.d (.sl 10 (dsAll l))) [c]) po1
theorem At.sz {E : Env} {T : Nat} {t : Tk} {r : List Tk} (h : At E T t r) : t.s.size ≤ 65536 := by have := h.b; have := E.hs; omega
theorem prim_step (hX : LibX X) {n : Nat} (he : ∀ m, m < n → LineA X 35 0 m) (ha : ∀ m, m < n → ArgsA X m) : PrimA X n := fun d hd => by
  cases n with
  | zero => exact Rdr.out
  | succ n =>
    intro E T t r hA hne
    have hsz := hA.sz
    refine DoesQ.of Tryz.func143 (by kernel_rfl) ?_
    have e1 : runG (pPrim (n + 1) d) (t :: r) = runG (match decide (t.k = 2) with
      | true => .next (.ret (.mk 1 t.a b0 b0 ⟨1, numZ t.s, false, b0⟩ 0 []))
      | false => match decide (t.k = 3) with
        | true => .next (.ret (.mk 1 t.a b0 b0 ⟨3, 0, false, txtZ t.s⟩ 0 []))
        | false => match isAny t [mkB [116, 114, 117, 101], mkB [102, 97, 108, 115, 101]] with
          | true => .next (.ret (.mk 1 t.a b0 b0 ⟨2, 0, decide (t.s = mkB [116, 114, 117, 101]), b0⟩ 0 []))
          | false => match isT t (mkB [40]) with
            | true => (gOpen (mkB [40]) d).bind fun _ => (pLine n 0 (d + 1)).bind fun e => (gMust (mkB [41])).bind fun _ => .ret e
            | false => (gOf 1).bind fun w => (gIs (mkB [46])).bind fun
              | true => .next ((gOf 1).bind fun w2 => pName n d t.a w.1 w2.1)
              | false => pName n d t.a b0 w.1) (t :: r) := rfl
    rw [e1] at hne ⊢
    by_cases h2 : t.k = 2
    · simp only [decide_eq_true h2] at hne ⊢
      refine WP.iteT (by simp [h2]) ?_
      refine Rdr.next hX hA (by omega) hne ?_ ?_
      · intro T' t' r' hA' hne'
        refine WP.use1 (lnumber hX t.s (by omega) (by rw [hA.g (by omega), h2])) ?_
        exact WP.leaf ⟨T', t', r', rfl, hA', rfl⟩
      · intro e q T k' a b y d2; exact WP.leaf rfl
    simp only [decide_eq_false h2] at hne ⊢
    refine WP.iteF (by simp; omega) ?_
    by_cases h3 : t.k = 3
    · simp only [decide_eq_true h3] at hne ⊢
      refine WP.iteT (by simp [h3]) ?_
      refine Rdr.next hX hA (by omega) hne ?_ ?_
      · intro T' t' r' hA' hne'
        refine WP.use1 (ltext t.s (by omega) (by rw [hA.g (by omega), h3])) ?_
        exact WP.leaf ⟨T', t', r', rfl, hA', rfl⟩
      · intro e q T k' a b y d2; exact WP.leaf rfl
    simp only [decide_eq_false h3] at hne ⊢
    refine WP.iteF (by simp; omega) ?_
    refine WP.use1 (r_isA [mkB [116, 114, 117, 101], mkB [102, 97, 108, 115, 101]] (by simp) E T t d) ?_
    cases h4 : isAny t [mkB [116, 114, 117, 101], mkB [102, 97, 108, 115, 101]] with
    | true =>
      rw [h4] at hne
      refine WP.iteT rfl ?_
      refine Rdr.next hX hA (isAny_k h4) hne ?_ ?_
      · intro T' t' r' hA' hne'
        exact WP.leaf ⟨T', t', r', rfl, hA', rfl⟩
      · intro e q T k' a b y d2; exact WP.leaf rfl
    | false =>
      rw [h4] at hne
      refine WP.iteF rfl ?_
      refine WP.use1 (r_is1 (mkB [40]) E T t d) ?_
      cases h5 : isT t (mkB [40]) with
      | true =>
        rw [h5] at hne
        refine WP.iteT rfl ?_
        refine Rdr.opened hX hd hA hne ?_ ?_
        · intro h64 T t r hA hne
          refine Rdr.use (B := B1) (he n (Nat.lt_succ_self n) (d + 1) (by omega)) hA hne ?_ ?_
          · intro e T t r hA hne
            refine Rdr.use (B := B1) (r_close hX (mkB [41]) d hd) hA hne ?_ ?_
            · intro _ T t r hA hne
              exact WP.leaf ⟨T, t, r, rfl, hA, rfl⟩
            · rintro z q T k' a b y d2 o rfl; exact WP.leaf rfl
          · rintro z q T k' a b y d2 o rfl; exact WP.leaf rfl
        · intro z q T k' a b y d2; exact WP.leaf rfl
      | false =>
        rw [h5] at hne
        refine WP.iteF rfl ?_
        refine Rdr.use (B := B1) (r_of hX 1 (by omega) d) hA hne ?_ ?_
        · intro w T t1 r hA hne
          refine WP.use1 (r_is1 (mkB [46]) E T t1 d) ?_
          have e2 : runG ((gIs (mkB [46])).bind fun
              | true => .next ((gOf 1).bind fun w2 => pName n d t.a w.1 w2.1)
              | false => pName n d t.a b0 w.1) (t1 :: r) = runG (match isT t1 (mkB [46]) with
              | true => .next ((gOf 1).bind fun w2 => pName n d t.a w.1 w2.1)
              | false => pName n d t.a b0 w.1) (t1 :: r) := rfl
          have e2' : runG ((fun w : ByteArray × Nat => (gIs (mkB [46])).bind fun
              | true => .next ((gOf 1).bind fun w2 => pName n d t.a w.1 w2.1)
              | false => pName n d t.a b0 w.1) w) (t1 :: r) = _ := e2
          rw [e2'] at hne ⊢
          cases h6 : isT t1 (mkB [46]) with
          | true =>
            rw [h6] at hne
            refine WP.iteT rfl ?_
            refine Rdr.next hX hA (isT_k h6) hne ?_ ?_
            · intro T t2 r hA hne
              refine Rdr.use (B := B1) (r_of hX 1 (by omega) d) hA hne ?_ ?_
              · intro w2 T t3 r hA hne
                cases n with
                | zero => exact absurd rfl hne
                | succ n =>
                  refine WP.use1 (r_is1 (mkB [40]) E T t3 d) ?_
                  have e3 : runG (pName (n + 1) d t.a w.1 w2.1) (t3 :: r) = runG (match isT t3 (mkB [40]) with
                    | true => (pArgs n d).bind fun l => .ret (.mk 3 t.a w.1 w2.1 val0 0 l)
                    | false => .ret (.mk 2 t.a w.1 w2.1 val0 0 [])) (t3 :: r) := rfl
                  rw [e3] at hne ⊢
                  cases h7 : isT t3 (mkB [40]) with
                  | true =>
                    rw [h7] at hne
                    refine WP.iteT rfl ?_
                    refine Rdr.use (B := B1) (ha n (by omega) d hd) hA hne ?_ ?_
                    · intro l T t r hA hne
                      exact WP.leaf ⟨T, t, r, rfl, hA, rfl⟩
                    · rintro z q T k' a b y d2 o rfl; exact WP.leaf rfl
                  | false =>
                    refine WP.iteF rfl ?_
                    exact WP.leaf ⟨T, t3, r, rfl, hA, rfl⟩
              · rintro z q T k' a b y d2 o rfl; exact WP.leaf rfl
            · intro z q T k' a b y d2; exact WP.leaf rfl
          | false =>
            rw [h6] at hne
            refine WP.iteF rfl ?_
            cases n with
            | zero => exact absurd rfl hne
            | succ n =>
              refine WP.use1 (r_is1 (mkB [40]) E T t1 d) ?_
              have e3 : runG (pName (n + 1) d t.a b0 w.1) (t1 :: r) = runG (match isT t1 (mkB [40]) with
                | true => (pArgs n d).bind fun l => .ret (.mk 3 t.a b0 w.1 val0 0 l)
                | false => .ret (.mk 2 t.a b0 w.1 val0 0 [])) (t1 :: r) := rfl
              have e3' : runG (match false with
                | true => .next ((gOf 1).bind fun w2 => pName (n + 1) d t.a w.1 w2.1)
                | false => pName (n + 1) d t.a b0 w.1) (t1 :: r) = _ := e3
              rw [e3'] at hne ⊢
              cases h7 : isT t1 (mkB [40]) with
              | true =>
                rw [h7] at hne
                refine WP.iteT rfl ?_
                refine Rdr.use (B := B1) (ha n (by omega) d hd) hA hne ?_ ?_
                · intro l T t r hA hne
                  exact WP.leaf ⟨T, t, r, rfl, hA, rfl⟩
                · rintro z q T k' a b y d2 o rfl; exact WP.leaf rfl
              | false =>
                refine WP.iteF rfl ?_
                exact WP.leaf ⟨T, t1, r, rfl, hA, rfl⟩
        · rintro z q T k' a b y d2 o rfl; exact WP.leaf rfl
abbrev roL (l : List TExpr) (c : List V) : Out := .ret (.d (.sl 10 (dsAll l))) [c]
/-- the arguments of a call, from behind the bracket on -/
theorem args_loop (hX : LibX X) (d : Nat) (hd : d ≤ 64) : ∀ (n : Nat), (∀ m, m < n → LineA X 35 0 m) →
    ∀ (E : Env) (K : Ex → St → Id.T Out) (d' : Nat) (hE : ∀ T t r l, At E T t r → isT t (mkB [41]) = true → runG (.next (.ret l)) (t :: r) ≠ .out → WP X (K (.exit 0) ⟨[(0, .box base 0), (3, .own (19, here) 10 (dsAll l))], [(base, rdT E T t d)]⟩) (Post E d' roL po1 (runG (.next (.ret l)) (t :: r))))
      (hP : ∀ (e q T k a b : Int) (y : ByteArray) (d2 : Int) (σ : St), getB σ.b base = some (rd E.s E.F T k a b y d2) → WP X (K (.pan (stopV e q)) σ) (po1 (stopV e q) (rd E.s E.F T k a b y d2)))
      (T : Nat) (t : Tk) (r : List Tk) (l : List TExpr), At E T t r → n + l.length ≤ 1000000000 → runG (pArgl n d l) (t :: r) ≠ .out → ∀ σ : St, getT σ.t 0 = .box base 0 → WkV σ (.own (19, here) 10 (dsAll l)) (getT σ.t 3) → getB σ.b base = some (rdT E T t d) →
      WP X (.loop (lp Tryz.f150 0) σ K) (Post E d' roL po1 (runG (pArgl n d l) (t :: r)))
  | 0, _, E, K, d', hE, hP, T, t, r, l, hA, hl, hne, σ, _, _, _ => absurd rfl hne
  | n + 1, he, E, K, d', hE, hP, T, t, r, l, hA, hl, hne, σ, g0, g3, gb => by
    refine WP.round ⟨[(0, .box base 0), (3, .own (19, here) 10 (dsAll l))], [(base, rdT E T t d)]⟩ ⟨⟨.inl g0.symm, g3, trivial⟩, ⟨WkB.box gb, trivial⟩⟩ ?_
    have e1 : runG (pArgl (n + 1) d l) (t :: r) = runG (match isT t (mkB [41]) with
      | true => .next (.ret l)
      | false => (gSep l.length).bind fun _ => (pLine n 0 d).bind fun e => pArgl n d (l ++ [e])) (t :: r) := rfl
    rw [e1] at hne ⊢
    refine WP.use1 (r_is1 (mkB [41]) E T t d) ?_
    cases h1 : isT t (mkB [41]) with
    | true =>
      rw [h1] at hne
      refine WP.iteF rfl ?_
      exact WP.leaf ⟨⟨[(0, .box base 0), (3, .own (19, here) 10 (dsAll l))], [(base, rdT E T t d)]⟩, ⟨⟨.inl rfl, .inl rfl, trivial⟩, ⟨WkB.box rfl, trivial⟩⟩, hE T t r l hA h1 hne⟩
    | false =>
      rw [h1] at hne
      refine WP.iteT rfl ?_
      by_cases h0 : 0 < l.length
      · refine WP.iteT (decide_eq_true (by rw [dsAll_len]; omega)) ?_
        simp only [gSep_pos h0] at hne ⊢
        refine Rdr.useL (B := B1) (p := gMust (mkB [44])) (h := fun _ => (pLine n 0 d).bind fun e => pArgl n d (l ++ [e])) (r_must hX (mkB [44]) d) hA hne ?_ ?_
        · intro _ T t r hA hne
          refine Rdr.useL (B := B1) (he n (Nat.lt_succ_self n) d hd) hA hne ?_ ?_
          · intro e T t r hA hne
            refine WP.asrt (show ((dsAll l).length + 1) * 120 ≤ 140737488355328 by rw [dsAll_len]; omega) ?_
            refine WP.leaf (args_loop hX d hd n (fun m hm => he m (by omega)) E K d' hE hP T t r (l ++ [e]) hA (by rw [List.length_append]; simp; omega) hne _ rfl (.inl ?_) rfl)
            rw [dsAll_app, dsAll1]; rfl
          · rintro z q T k' a b y d2 o rfl
            exact WP.leaf (hP _ _ _ _ _ _ _ _ _ rfl)
        · rintro z q T k' a b y d2 o rfl
          exact WP.leaf (hP _ _ _ _ _ _ _ _ _ rfl)
      · refine WP.iteF (decide_eq_false (by rw [dsAll_len]; omega)) ?_
        simp only [gSep_zero h0] at hne ⊢
        refine Rdr.useL (B := B1) (p := pLine n 0 d) (h := fun e => pArgl n d (l ++ [e])) (he n (Nat.lt_succ_self n) d hd) hA hne ?_ ?_
        · intro e T t r hA hne
          refine WP.asrt (show ((dsAll l).length + 1) * 120 ≤ 140737488355328 by rw [dsAll_len]; omega) ?_
          refine WP.leaf (args_loop hX d hd n (fun m hm => he m (by omega)) E K d' hE hP T t r (l ++ [e]) hA (by rw [List.length_append]; simp; omega) hne _ rfl (.inl ?_) rfl)
          rw [dsAll_app, dsAll1]; rfl
        · rintro z q T k' a b y d2 o rfl
          exact WP.leaf (hP _ _ _ _ _ _ _ _ _ rfl)
theorem args_step (hX : LibX X) {n : Nat} (hn : n ≤ 1000000000) (he : ∀ m, m < n → LineA X 35 0 m) : ArgsA X n := fun d hd => by
  cases n with
  | zero => exact Rdr.out
  | succ n =>
    intro E T t r hA hne
    refine DoesQ.of Tryz.func150 (by kernel_rfl) ?_
    have e1 : pArgs (n + 1) d = (gOpen (mkB [40]) d).bind fun _ => pArgl n (d + 1) [] := rfl
    rw [e1] at hne ⊢
    refine Rdr.opened hX hd hA hne ?_ ?_
    · intro h64 T t r hA hne
      refine args_loop hX (d + 1) (by omega) n (fun m hm => he m (by omega)) E _ d ?_ ?_ T t r [] hA (by simp; omega) hne _ rfl (.inr (.inr ⟨(19, here), 10, 10, rfl, rfl, rfl, rfl⟩)) rfl
      · intro T t r l hA h1 hne
        have e2 : runG (.next (.ret l)) (t :: r) = runG ((gMust (mkB [41])).bind fun _ => .ret l) (t :: r) := by
          show _ = runG ((match isT t (mkB [41]) with | true => .next (.ret t.a) | false => .err 140 : Gr Nat).bind fun _ => .ret l) (t :: r)
          rw [h1]; rfl
        rw [e2] at hne ⊢
        refine Rdr.use (B := B1) (r_close hX (mkB [41]) d hd) hA hne ?_ ?_
        · intro _ T t r hA hne
          exact WP.leaf ⟨T, t, r, rfl, hA, rfl⟩
        · rintro z q T k' a b y d2 o rfl; exact WP.leaf rfl
      · intro z q T k a b y d2 σ gb
        exact WP.finPan1 gb
    · intro z q T k' a b y d2; exact WP.leaf rfl
/-- all lines of the grammar of expressions -/
theorem exprs (hX : LibX X) : ∀ (n : Nat), n ≤ 1000000000 → LineA X 35 0 n ∧ LineB X 68 1 n ∧ LineA X 69 2 n ∧ LineA X 102 3 n ∧ LineB X 128 4 n ∧
    LineA X 129 5 n ∧ UnaryA X n ∧ PrimA X n ∧ ArgsA X n := by
  intro n
  induction n using Nat.strongRecOn with
  | _ n ih =>
    intro hn
    have ih' := fun m (hm : m < n) => ih m hm (by omega)
    refine ⟨line0 hX fun m hm => (ih' m hm).2.1, line1 hX fun m hm => (ih' m hm).2.2.1, line2 hX fun m hm => (ih' m hm).2.2.2.1, line3 hX fun m hm => (ih' m hm).2.2.2.2.1, line4 hX fun m hm => (ih' m hm).2.2.2.2.2.1,
      line5 fun m hm => (ih' m hm).2.2.2.2.2.2.1, unary_step hX (fun m hm => (ih' m hm).2.2.2.2.2.2.1) fun m hm => (ih' m hm).2.2.2.2.2.2.2.1, prim_step hX (fun m hm => (ih' m hm).1) fun m hm => (ih' m hm).2.2.2.2.2.2.2.2, args_step hX hn fun m hm => (ih' m hm).1⟩
theorem r_expr (hX : LibX X) {n : Nat} (hn : n ≤ 1000000000) : LineA X 35 0 n := (exprs hX n hn).1
theorem r_args (hX : LibX X) {n : Nat} (hn : n ≤ 1000000000) : ArgsA X n := (exprs hX n hn).2.2.2.2.2.2.2.2
end Go.Proofs.YtacfbgfphkfobaaGreatDoor.Id
/-! ## PaStmt -/
namespace Go.Proofs.YtacfbgfphkfobaaGreatDoor.Id
open Go
set_option linter.unusedVariables false
set_option linter.unusedSimpArgs false
set_option maxHeartbeats 1000000
set_option maxRecDepth 100000
variable {X : Given}
def TStmt.k : TStmt → Int | .mk k _ _ _ _ _ _ => k
def TStmt.a : TStmt → Int | .mk _ a _ _ _ _ _ => a
def TStmt.nm : TStmt → ByteArray | .mk _ _ n _ _ _ _ => n
def TStmt.e : TStmt → TExpr | .mk _ _ _ e _ _ _ => e
def TStmt.body : TStmt → List TStmt | .mk _ _ _ _ b _ _ => b
def TStmt.els : TStmt → List TStmt | .mk _ _ _ _ _ l _ => l
def TStmt.he : TStmt → Bool | .mk _ _ _ _ _ _ h => h
mutual
def ssOf : TStmt → List D
  | .mk k a nm e body els he => [cZ k, cZ a, .str nm, cZ e.k, cZ e.a, .str e.of, .str e.nm, cZ e.v.t, cZ e.v.i, .bool e.v.b, .str e.v.s, cZ e.op, .sl 10 (dsAll e.kids), .sl 16 (ssAll body), .sl 16 (ssAll els), .bool he]
def ssAll : List TStmt → List (List D)
  | [] => []
  | x :: r => ssOf x :: ssAll r
end
/-- a statement's cells -/
abbrev sD (s : TStmt) : List D := [cZ s.k, cZ s.a, .str s.nm, cZ s.e.k, cZ s.e.a, .str s.e.of, .str s.e.nm, cZ s.e.v.t, cZ s.e.v.i, .bool s.e.v.b, .str s.e.v.s, cZ s.e.op, .sl 10 (dsAll s.e.kids), .sl 16 (ssAll s.body), .sl 16 (ssAll s.els), .bool s.he]
theorem ssOf_eq (s : TStmt) : ssOf s = sD s := by cases s; rfl
theorem ssAll_cons (x : TStmt) (r : List TStmt) : ssAll (x :: r) = sD x :: ssAll r := by rw [ssAll, ssOf_eq]
theorem ssAll1 (x : TStmt) : ssAll [x] = [sD x] := by rw [ssAll_cons]; rfl
theorem ssAll_app : ∀ (a b : List TStmt), ssAll (a ++ b) = ssAll a ++ ssAll b
  | [], b => rfl
  | x :: r, b => by rw [List.cons_append, ssAll, ssAll, ssAll_app r b]; rfl
theorem ssAll_len : ∀ (a : List TStmt), (ssAll a).length = a.length
  | [] => rfl
  | x :: r => by rw [ssAll, List.length_cons, List.length_cons, ssAll_len r]
/-- a statement's box while it is read -/
abbrev s0c (k a : Int) (nm : ByteArray) (ek ea : Int) (eof enm : ByteArray) : List V := [vI k, vI a, vS nm, vI ek, vI ea, vS eof, vS enm, vI 0, vI 0, vB false, vS .empty, vI 0, .d (.nil 10), .d (.nil 16), .d (.nil 16), vB false]
/-- a statement's box, with its expression -/
abbrev s1c (k a : Int) (nm : ByteArray) (e : TExpr) : List V := [vI k, vI a, vS nm, vI e.k, vI e.a, vS e.of, vS e.nm, vI e.v.t, vI e.v.i, vB e.v.b, vS e.v.s, vI e.op, .d (.sl 10 (dsAll e.kids)), .d (.nil 16), .d (.nil 16), vB false]
abbrev roS (s : TStmt) (c : List V) : Out := .ret (.agg (sD s)) [c]
abbrev roSs (l : List TStmt) (c : List V) : Out := .ret (.d (.sl 16 (ssAll l))) [c]
abbrev B4 (a : Int) (c : List V) : List (List V) := [c, s0c 0 a .empty 0 0 .empty .empty]
abbrev roN4 (a : Int) (x : Int × ByteArray × TExpr) (c : List V) : Out := .ret (.tuple []) [c, s1c x.1 a x.2.1 x.2.2]
abbrev po4 (a : Int) (v : V) (c : List V) (o : Out) : Prop := ∃ k nm ek ea eof enm, o = .pan v [c, s0c k a nm ek ea eof enm]
theorem r_named (hX : LibX X) {n : Nat} (hn : n ≤ 1000000000) (d a : Nat) (hd : d ≤ 64) : Rdr X 140 [.box base 0, .box (base + 1) 0] (B4 a) d d (pNamed n d) (roN4 a) (po4 a) := by
  intro E T t r hA hne
  refine DoesQ.of Tryz.func140 (by kernel_rfl) ?_
  unfold pNamed at hne ⊢
  refine Rdr.use (B := B1) (r_of hX 1 (by omega) d) hA hne ?_ ?_
  · intro w T t r hA hne
    refine WP.use1 (r_is1 (mkB [61]) E T t d) ?_
    rw [runG_is] at hne ⊢
    cases h1 : isT t (mkB [61]) with
    | true =>
      rw [h1] at hne
      refine WP.iteT rfl ?_
      refine Rdr.next hX hA (isT_k h1) hne ?_ ?_
      · intro T t r hA hne
        refine Rdr.use (B := B1) (r_expr hX hn d hd) hA hne ?_ ?_
        · intro e T t r hA hne
          exact WP.leaf ⟨T, t, r, rfl, hA, rfl⟩
        · rintro z q T k' a' b y d2 o rfl; exact WP.leaf ⟨_, _, _, _, _, _, rfl⟩
      · intro z q T k' a' b y d2; exact WP.leaf ⟨_, _, _, _, _, _, rfl⟩
    | false =>
      rw [h1] at hne
      refine WP.iteF rfl ?_
      refine WP.use1 (r_is1 (mkB [46]) E T t d) ?_
      change runG ((gIs (mkB [46])).bind _) (t :: r) ≠ .out at hne
      rw [runG_is] at hne
      show WP X _ (Post E d (roN4 a) (po4 a) (runG ((gIs (mkB [46])).bind _) (t :: r)))
      rw [runG_is]
      cases h2 : isT t (mkB [46]) with
      | true =>
        rw [h2] at hne
        refine WP.iteT rfl ?_
        refine Rdr.next hX hA (isT_k h2) hne ?_ ?_
        · intro T t r hA hne
          refine Rdr.use (B := B1) (r_of hX 1 (by omega) d) hA hne ?_ ?_
          · intro w2 T t r hA hne
            refine Rdr.use (B := B1) (r_args hX hn d hd) hA hne ?_ ?_
            · intro l T t r hA hne
              exact WP.leaf ⟨T, t, r, rfl, hA, rfl⟩
            · rintro z q T k' a' b y d2 o rfl; exact WP.leaf ⟨_, _, _, _, _, _, rfl⟩
          · rintro z q T k' a' b y d2 o rfl; exact WP.leaf ⟨_, _, _, _, _, _, rfl⟩
        · intro z q T k' a' b y d2; exact WP.leaf ⟨_, _, _, _, _, _, rfl⟩
      | false =>
        rw [h2] at hne
        refine WP.iteF rfl ?_
        refine Rdr.use (B := B1) (r_args hX hn d hd) hA hne ?_ ?_
        · intro l T t r hA hne
          exact WP.leaf ⟨T, t, r, rfl, hA, rfl⟩
        · rintro z q T k' a' b y d2 o rfl; exact WP.leaf ⟨_, _, _, _, _, _, rfl⟩
  · rintro z q T k' a' b y d2 o rfl; exact WP.leaf ⟨_, _, _, _, _, _, rfl⟩
end Go.Proofs.YtacfbgfphkfobaaGreatDoor.Id
/-! ## PaBlock -/
namespace Go.Proofs.YtacfbgfphkfobaaGreatDoor.Id
open Go
set_option linter.unusedVariables false
set_option linter.unusedSimpArgs false
set_option maxHeartbeats 1000000
set_option maxRecDepth 100000
variable {X : Given}
abbrev BlockA (X : Given) (n : Nat) : Prop := ∀ d, d ≤ 64 → Rdr X 92 [.box base 0] B1 d d (pBlock n d) roSs po1
abbrev StmtA (X : Given) (n : Nat) : Prop := ∀ d, d ≤ 64 → Rdr X 126 [.box base 0] B1 d d (pStmt n d) roS po1
abbrev BranchA (X : Given) (n : Nat) : Prop := ∀ d, d ≤ 64 → Rdr X 139 [.box base 0] B1 d d (pBranch n d) roS po1
theorem block_loop (hX : LibX X) (d : Nat) (hd : d ≤ 64) : ∀ (n : Nat), (∀ m, m < n → StmtA X m) →
    ∀ (E : Env) (K : Ex → St → Id.T Out) (d' : Nat) (hE : ∀ T t r l, At E T t r → isT t (mkB [125]) = true → runG (.next (.ret l)) (t :: r) ≠ .out → WP X (K (.exit 0) ⟨[(0, .box base 0), (3, .own (14, here) 16 (ssAll l))], [(base, rdT E T t d)]⟩) (Post E d' roSs po1 (runG (.next (.ret l)) (t :: r))))
      (hP : ∀ (e q T k a b : Int) (y : ByteArray) (d2 : Int) (σ : St), getB σ.b base = some (rd E.s E.F T k a b y d2) → WP X (K (.pan (stopV e q)) σ) (po1 (stopV e q) (rd E.s E.F T k a b y d2)))
      (T : Nat) (t : Tk) (r : List Tk) (l : List TStmt), At E T t r → n + l.length ≤ 100000000 → runG (pStmts n d l) (t :: r) ≠ .out → ∀ σ : St, getT σ.t 0 = .box base 0 → WkV σ (.own (14, here) 16 (ssAll l)) (getT σ.t 3) → getB σ.b base = some (rdT E T t d) →
      WP X (.loop (lp Tryz.f92 0) σ K) (Post E d' roSs po1 (runG (pStmts n d l) (t :: r)))
  | 0, _, E, K, d', hE, hP, T, t, r, l, hA, hl, hne, σ, _, _, _ => absurd rfl hne
  | n + 1, hs, E, K, d', hE, hP, T, t, r, l, hA, hl, hne, σ, g0, g3, gb => by
    refine WP.round ⟨[(0, .box base 0), (3, .own (14, here) 16 (ssAll l))], [(base, rdT E T t d)]⟩ ⟨⟨.inl g0.symm, g3, trivial⟩, ⟨WkB.box gb, trivial⟩⟩ ?_
    have e1 : runG (pStmts (n + 1) d l) (t :: r) = runG (match isT t (mkB [125]) with
      | true => .next (.ret l)
      | false => (pStmt n d).bind fun s => pStmts n d (l ++ [s])) (t :: r) := rfl
    rw [e1] at hne ⊢
    refine WP.use1 (r_is1 (mkB [125]) E T t d) ?_
    cases h1 : isT t (mkB [125]) with
    | true =>
      rw [h1] at hne
      refine WP.iteF rfl ?_
      exact WP.leaf ⟨⟨[(0, .box base 0), (3, .own (14, here) 16 (ssAll l))], [(base, rdT E T t d)]⟩, ⟨⟨.inl rfl, .inl rfl, trivial⟩, ⟨WkB.box rfl, trivial⟩⟩, hE T t r l hA h1 hne⟩
    | false =>
      rw [h1] at hne
      refine WP.iteT rfl ?_
      refine Rdr.useL (B := B1) (p := pStmt n d) (h := fun e => pStmts n d (l ++ [e])) (hs n (Nat.lt_succ_self n) d hd) hA hne ?_ ?_
      · intro e T t r hA hne
        refine WP.asrt (show ((ssAll l).length + 1) * 208 ≤ 140737488355328 by rw [ssAll_len]; omega) ?_
        refine WP.leaf (block_loop hX d hd n (fun m hm => hs m (by omega)) E K d' hE hP T t r (l ++ [e]) hA (by rw [List.length_append]; simp; omega) hne _ rfl (.inl ?_) rfl)
        rw [ssAll_app, ssAll1]; rfl
      · rintro z q T k' a b y d2 o rfl
        exact WP.leaf (hP _ _ _ _ _ _ _ _ _ rfl)
theorem block_step (hX : LibX X) {n : Nat} (hn : n ≤ 100000000) (hs : ∀ m, m < n → StmtA X m) : BlockA X n := fun d hd => by
  cases n with
  | zero => exact Rdr.out
  | succ n =>
    intro E T t r hA hne
    refine DoesQ.of Tryz.func92 (by kernel_rfl) ?_
    have e1 : pBlock (n + 1) d = (gOpen (mkB [123]) d).bind fun _ => pStmts n (d + 1) [] := rfl
    rw [e1] at hne ⊢
    refine Rdr.opened hX hd hA hne ?_ ?_
    · intro h64 T t r hA hne
      refine block_loop hX (d + 1) (by omega) n (fun m hm => hs m (by omega)) E _ d ?_ ?_ T t r [] hA (by simp; omega) hne _ rfl (.inr (.inr ⟨(14, here), 16, 16, rfl, rfl, rfl, rfl⟩)) rfl
      · intro T t r l hA h1 hne
        have e2 : runG (.next (.ret l)) (t :: r) = runG ((gMust (mkB [125])).bind fun _ => .ret l) (t :: r) := by
          show _ = runG ((match isT t (mkB [125]) with | true => .next (.ret t.a) | false => .err 140 : Gr Nat).bind fun _ => .ret l) (t :: r)
          rw [h1]; rfl
        rw [e2] at hne ⊢
        refine Rdr.use (B := B1) (r_close hX (mkB [125]) d hd) hA hne ?_ ?_
        · intro _ T t r hA hne
          exact WP.leaf ⟨T, t, r, rfl, hA, rfl⟩
        · rintro z q T k' a b y d2 o rfl; exact WP.leaf rfl
      · intro z q T k a b y d2 σ gb
        exact WP.finPan1 gb
    · intro z q T k' a b y d2; exact WP.leaf rfl
theorem stmt_step (hX : LibX X) {n : Nat} (hn : n ≤ 100000000) (hb : ∀ m, m < n → BlockA X m) (hr : ∀ m, m < n → BranchA X m) : StmtA X n := fun d hd => by
  cases n with
  | zero => exact Rdr.out
  | succ n =>
    intro E T t r hA hne
    refine DoesQ.of Tryz.func126 (by kernel_rfl) ?_
    have e1 : runG (pStmt (n + 1) d) (t :: r) = runG (match isT t kVar with
      | true => .next ((gOf 1).bind fun w => (gMust (mkB [61])).bind fun _ => (pLine n 0 d).bind fun e => gSemi (.mk 1 t.a w.1 e [] [] false))
      | false => match isT t kIf with
        | true => pBranch n d
        | false => match isT t kWhile with
          | true => .next ((pLine n 0 d).bind fun e => (pBlock n d).bind fun b => .ret (.mk 4 t.a b0 e b [] false))
          | false => match isT t kReturn with
            | true => .next ((gIs (mkB [59])).bind fun
              | true => gSemi (.mk 5 t.a b0 expr0 [] [] false)
              | false => (pLine n 0 d).bind fun e => gSemi (.mk 5 t.a b0 e [] [] false))
            | false => match isT t kPrint with
              | true => .next ((pLine n 0 d).bind fun e => gSemi (.mk 6 t.a b0 e [] [] false))
              | false => (pNamed n d).bind fun x => gSemi (.mk x.1 t.a x.2.1 x.2.2 [] [] false)) (t :: r) := rfl
    rw [e1] at hne ⊢
    have hx := r_expr hX (n := n) (by omega) (X := X) d hd
    refine WP.use1 (r_is1 kVar E T t d) ?_
    cases h1 : isT t kVar with
    | true =>
      rw [h1] at hne
      refine WP.iteT rfl ?_
      refine Rdr.next hX hA (isT_k h1) hne ?_ ?_
      · intro T t' r hA hne
        refine Rdr.use (B := B1) (r_of hX 1 (by omega) d) hA hne ?_ ?_
        · intro w T t' r hA hne
          refine Rdr.use (B := B1) (r_must hX (mkB [61]) d) hA hne ?_ ?_
          · intro _ T t' r hA hne
            refine Rdr.use (B := B1) hx hA hne ?_ ?_
            · intro e T t' r hA hne
              refine Rdr.use (B := B1) (r_must hX (mkB [59]) d) hA hne ?_ ?_
              · intro _ T t' r hA hne
                exact WP.leaf ⟨T, t', r, rfl, hA, rfl⟩
              · rintro z q T k' a b y d2 o rfl; exact WP.leaf rfl
            · rintro z q T k' a b y d2 o rfl; exact WP.leaf rfl
          · rintro z q T k' a b y d2 o rfl; exact WP.leaf rfl
        · rintro z q T k' a b y d2 o rfl; exact WP.leaf rfl
      · intro z q T k' a b y d2; exact WP.leaf rfl
    | false =>
    rw [h1] at hne
    refine WP.iteF rfl ?_
    refine WP.use1 (r_is1 kIf E T t d) ?_
    cases h2 : isT t kIf with
    | true =>
      rw [h2] at hne
      refine WP.iteT rfl ?_
      simp only at hne ⊢
      rw [bind_ret (pBranch n d)] at hne ⊢
      refine Rdr.use (B := B1) (hr n (Nat.lt_succ_self n) d hd) hA hne ?_ ?_
      · intro s T t' r hA hne
        exact WP.leaf ⟨T, t', r, rfl, hA, rfl⟩
      · rintro z q T k' a b y d2 o rfl; exact WP.leaf rfl
    | false =>
    rw [h2] at hne
    refine WP.iteF rfl ?_
    refine WP.use1 (r_is1 kWhile E T t d) ?_
    cases h3 : isT t kWhile with
    | true =>
      rw [h3] at hne
      refine WP.iteT rfl ?_
      refine Rdr.next hX hA (isT_k h3) hne ?_ ?_
      · intro T t' r hA hne
        refine Rdr.use (B := B1) hx hA hne ?_ ?_
        · intro e T t' r hA hne
          refine Rdr.use (B := B1) (hb n (Nat.lt_succ_self n) d hd) hA hne ?_ ?_
          · intro l T t' r hA hne
            exact WP.leaf ⟨T, t', r, rfl, hA, rfl⟩
          · rintro z q T k' a b y d2 o rfl; exact WP.leaf rfl
        · rintro z q T k' a b y d2 o rfl; exact WP.leaf rfl
      · intro z q T k' a b y d2; exact WP.leaf rfl
    | false =>
    rw [h3] at hne
    refine WP.iteF rfl ?_
    refine WP.use1 (r_is1 kReturn E T t d) ?_
    cases h4 : isT t kReturn with
    | true =>
      rw [h4] at hne
      refine WP.iteT rfl ?_
      refine Rdr.next hX hA (isT_k h4) hne ?_ ?_
      · intro T t' r hA hne
        refine WP.use1 (r_is1 (mkB [59]) E T t' d) ?_
        rw [runG_is] at hne ⊢
        cases h5 : isT t' (mkB [59]) with
        | true =>
          rw [h5] at hne
          refine WP.iteF rfl ?_
          refine Rdr.use (B := B1) (p := gMust (mkB [59])) (h := fun _ => .ret (TStmt.mk 5 t.a b0 expr0 [] [] false)) (r_must hX (mkB [59]) d) hA hne ?_ ?_
          · intro _ T t' r hA hne
            exact WP.leaf ⟨T, t', r, rfl, hA, rfl⟩
          · rintro z q T k' a b y d2 o rfl; exact WP.leaf rfl
        | false =>
          rw [h5] at hne
          refine WP.iteT rfl ?_
          refine Rdr.use (B := B1) hx hA hne ?_ ?_
          · intro e T t' r hA hne
            refine Rdr.use (B := B1) (r_must hX (mkB [59]) d) hA hne ?_ ?_
            · intro _ T t' r hA hne
              exact WP.leaf ⟨T, t', r, rfl, hA, rfl⟩
            · rintro z q T k' a b y d2 o rfl; exact WP.leaf rfl
          · rintro z q T k' a b y d2 o rfl; exact WP.leaf rfl
      · intro z q T k' a b y d2; exact WP.leaf rfl
    | false =>
    rw [h4] at hne
    refine WP.iteF rfl ?_
    refine WP.use1 (r_is1 kPrint E T t d) ?_
    cases h5 : isT t kPrint with
    | true =>
      rw [h5] at hne
      refine WP.iteT rfl ?_
      refine Rdr.next hX hA (isT_k h5) hne ?_ ?_
      · intro T t' r hA hne
        refine Rdr.use (B := B1) hx hA hne ?_ ?_
        · intro e T t' r hA hne
          refine Rdr.use (B := B1) (r_must hX (mkB [59]) d) hA hne ?_ ?_
          · intro _ T t' r hA hne
            exact WP.leaf ⟨T, t', r, rfl, hA, rfl⟩
          · rintro z q T k' a b y d2 o rfl; exact WP.leaf rfl
        · rintro z q T k' a b y d2 o rfl; exact WP.leaf rfl
      · intro z q T k' a b y d2; exact WP.leaf rfl
    | false =>
    rw [h5] at hne
    refine WP.iteF rfl ?_
    refine Rdr.use (B := B4 t.a) (r_named hX (by omega) d t.a hd) hA hne ?_ ?_
    · intro x T t' r hA hne
      refine Rdr.use (B := B1) (r_must hX (mkB [59]) d) hA hne ?_ ?_
      · intro _ T t' r hA hne
        exact WP.leaf ⟨T, t', r, rfl, hA, rfl⟩
      · rintro z q T k' a b y d2 o rfl; exact WP.leaf rfl
    · rintro z q T k' a b y d2 o ⟨_, _, _, _, _, _, rfl⟩; exact WP.leaf rfl
theorem branch_step (hX : LibX X) {n : Nat} (hn : n ≤ 100000000) (hb : ∀ m, m < n → BlockA X m) (hr : ∀ m, m < n → BranchA X m) : BranchA X n := fun d hd => by
  cases n with
  | zero => exact Rdr.out
  | succ n =>
    intro E T t r hA hne
    refine DoesQ.of Tryz.func139 (by kernel_rfl) ?_
    have e1 : pBranch (n + 1) d = (gMust kIf).bind fun a => (pLine n 0 d).bind fun e => (pBlock n d).bind fun b => (gIs kElse).bind fun
      | false => .ret (.mk 3 a b0 e b [] false)
      | true => .next ((gIs kIf).bind fun
        | true => (pBranch n d).bind fun s => .ret (.mk 3 a b0 e b [s] true)
        | false => (pBlock n d).bind fun l => .ret (.mk 3 a b0 e b l true)) := rfl
    rw [e1] at hne ⊢
    refine Rdr.use (B := B1) (r_must hX kIf d) hA hne ?_ ?_
    · intro a T t r hA hne
      refine Rdr.use (B := B1) (r_expr hX (by omega) d hd) hA hne ?_ ?_
      · intro e T t r hA hne
        refine Rdr.use (B := B1) (hb n (Nat.lt_succ_self n) d hd) hA hne ?_ ?_
        · intro b T t r hA hne
          refine WP.use1 (r_is1 kElse E T t d) ?_
          rw [runG_is] at hne ⊢
          cases h1 : isT t kElse with
          | false =>
            refine WP.iteT rfl ?_
            exact WP.leaf ⟨T, t, r, rfl, hA, rfl⟩
          | true =>
            rw [h1] at hne
            refine WP.iteF rfl ?_
            refine Rdr.next hX hA (isT_k h1) hne ?_ ?_
            · intro T t r hA hne
              refine WP.use1 (r_is1 kIf E T t d) ?_
              rw [runG_is] at hne ⊢
              cases h2 : isT t kIf with
              | true =>
                rw [h2] at hne
                refine WP.iteT rfl ?_
                refine Rdr.use (B := B1) (hr n (Nat.lt_succ_self n) d hd) hA hne ?_ ?_
                · intro s T t r hA hne
                  refine WP.leaf ⟨T, t, r, rfl, hA, ?_⟩
                  show Out.ret (.agg [_, _, _, _, _, _, _, _, _, _, _, _, _, _, .sl 16 [sD s], _]) _ = Out.ret (.agg [_, _, _, _, _, _, _, _, _, _, _, _, _, _, .sl 16 (ssAll [s]), _]) _
                  rw [ssAll1]; rfl
                · rintro z q T k' a b y d2 o rfl; exact WP.leaf rfl
              | false =>
                rw [h2] at hne
                refine WP.iteF rfl ?_
                refine Rdr.use (B := B1) (hb n (Nat.lt_succ_self n) d hd) hA hne ?_ ?_
                · intro l T t r hA hne
                  exact WP.leaf ⟨T, t, r, rfl, hA, rfl⟩
                · rintro z q T k' a b y d2 o rfl; exact WP.leaf rfl
            · intro z q T k' a b y d2; exact WP.leaf rfl
        · rintro z q T k' a b y d2 o rfl; exact WP.leaf rfl
      · rintro z q T k' a b y d2 o rfl; exact WP.leaf rfl
    · rintro z q T k' a b y d2 o rfl; exact WP.leaf rfl
theorem stmts (hX : LibX X) : ∀ (n : Nat), n ≤ 100000000 → BlockA X n ∧ StmtA X n ∧ BranchA X n := by
  intro n
  induction n using Nat.strongRecOn with
  | _ n ih =>
    intro hn
    have ih' := fun m (hm : m < n) => ih m hm (by omega)
    exact ⟨block_step hX hn fun m hm => (ih' m hm).2.1, stmt_step hX hn (fun m hm => (ih' m hm).1) fun m hm => (ih' m hm).2.2, branch_step hX hn (fun m hm => (ih' m hm).1) fun m hm => (ih' m hm).2.2⟩
theorem r_block (hX : LibX X) {n : Nat} (hn : n ≤ 100000000) : BlockA X n := (stmts hX n hn).1
end Go.Proofs.YtacfbgfphkfobaaGreatDoor.Id
/-! ## PaFunc -/
namespace Go.Proofs.YtacfbgfphkfobaaGreatDoor.Id
open Go
set_option linter.unusedVariables false
set_option linter.unusedSimpArgs false
set_option maxHeartbeats 1000000
set_option maxRecDepth 100000
variable {X : Given}
abbrev pD (p : TParam) : List D := [.str p.nm, cZ p.t]
abbrev psD (l : List TParam) : List (List D) := l.map fun p => pD p
/-- a function's cells -/
abbrev fD (f : TFunc) : List D := [.str f.nm, .bool f.ex, cZ f.a, .sl 2 (psD f.ps), cZ f.res, .sl 16 (ssAll f.body)]
abbrev roF (f : TFunc) (c : List V) : Out := .ret (.agg (fD f)) [c]
/-- a function's box while its parameters are read -/
abbrev fc (nm : ByteArray) (ex : Bool) (a : Int) (l : List TParam) : List V := [vS nm, vB ex, vI a, .own (5, 3) 2 (psD l), vI 0, .d (.nil 16)]
abbrev f0V : List V := [vS .empty, vB false, vI 0, .d (.nil 2), vI 0, .d (.nil 16)]
theorem params_loop (hX : LibX X) (d : Nat) (hd : d ≤ 64) (nm : ByteArray) (ex : Bool) (a : Int) (h : List TParam → Gr TFunc) : ∀ (n : Nat)
    (E : Env) (K : Ex → St → Id.T Out) (d' : Nat) (hE : ∀ T t r l, At E T t r → isT t (mkB [41]) = true → runG (.next (h l)) (t :: r) ≠ .out → WP X (K (.exit 0) ⟨[(0, .box base 0), (4, .box 4 0), (5, .box 5 0)], [(base, rdT E T t d), (4, f0V), (5, fc nm ex a l)]⟩) (Post E d' roF po1 (runG (.next (h l)) (t :: r))))
      (hP : ∀ (e q T k a b : Int) (y : ByteArray) (d2 : Int) (σ : St), getB σ.b base = some (rd E.s E.F T k a b y d2) → WP X (K (.pan (stopV e q)) σ) (po1 (stopV e q) (rd E.s E.F T k a b y d2)))
      (T : Nat) (t : Tk) (r : List Tk) (l : List TParam), At E T t r → n + l.length ≤ 100000000 → runG ((pParams n l).bind h) (t :: r) ≠ .out → ∀ σ : St, getT σ.t 0 = .box base 0 → getT σ.t 4 = .box 4 0 → getT σ.t 5 = .box 5 0 → getB σ.b base = some (rdT E T t d) → getB σ.b 4 = some f0V →
      (∃ us, getB σ.b 5 = some us ∧ WkVs σ (fc nm ex a l) us) →
      WP X (.loop (lp Tryz.f62 0) σ K) (Post E d' roF po1 (runG ((pParams n l).bind h) (t :: r)))
  | 0, E, K, d', hE, hP, T, t, r, l, hA, hl, hne, σ, _, _, _, _, _, _ => absurd rfl hne
  | n + 1, E, K, d', hE, hP, T, t, r, l, hA, hl, hne, σ, g0, g4, g5, gb, b4, b5 => by
    refine WP.round ⟨[(0, .box base 0), (4, .box 4 0), (5, .box 5 0)], [(base, rdT E T t d), (4, f0V), (5, fc nm ex a l)]⟩ ⟨⟨.inl g0.symm, .inl g4.symm, .inl g5.symm, trivial⟩, ⟨WkB.box gb, WkB.box b4, b5, trivial⟩⟩ ?_
    have e1 : runG ((pParams (n + 1) l).bind h) (t :: r) = runG (match isT t (mkB [41]) with
      | true => .next (h l)
      | false => (gSep l.length).bind fun _ => pParam.bind fun x => (pParams n (l ++ [x])).bind h) (t :: r) := by
      show runG ((match isT t (mkB [41]) with
        | true => .next (.ret l)
        | false => (gSep l.length).bind fun _ => pParam.bind fun x => pParams n (l ++ [x]) : Gr (List TParam)).bind h) (t :: r) = _
      cases isT t (mkB [41]) with
      | true => rfl
      | false => simp only [gr_assoc]
    rw [e1] at hne ⊢
    have go : ∀ (T : Nat) (t : Tk) (r : List Tk) (k : Out → Id.T (Ex × St)), At E T t r → runG (pParam.bind fun x => (pParams n (l ++ [x])).bind h) (t :: r) ≠ .out →
        (∀ w T t r, At E T t r → runG ((gMust (mkB [58])).bind fun _ => pType.bind fun ty => (pParams n (l ++ [⟨w.1, ty⟩])).bind h) (t :: r) ≠ .out → WP X (k (roW w (rdT E T t d))) (Round X (lp Tryz.f62 0) K (Post E d' roF po1 (runG ((gMust (mkB [58])).bind fun _ => pType.bind fun ty => (pParams n (l ++ [⟨w.1, ty⟩])).bind h) (t :: r))))) →
        (∀ (e q T k' a b : Int) (y : ByteArray) (d2 : Int), WP X (k (.pan (stopV e q) [rd E.s E.F T k' a b y d2])) (Round X (lp Tryz.f62 0) K (po1 (stopV e q) (rd E.s E.F T k' a b y d2)))) →
        WP X (.call 59 [.box base 0, vI (1 : Nat)] [rdT E T t d] k) (Round X (lp Tryz.f62 0) K (Post E d' roF po1 (runG (pParam.bind fun x => (pParams n (l ++ [x])).bind h) (t :: r)))) := fun T t r k hA hne hok hpan => by
      have e2 : (pParam.bind fun x => (pParams n (l ++ [x])).bind h) = (gOf 1).bind fun w => (gMust (mkB [58])).bind fun _ => pType.bind fun ty => (pParams n (l ++ [⟨w.1, ty⟩])).bind h := by
        unfold pParam; simp only [gr_assoc]; rfl
      rw [e2] at hne ⊢
      refine Rdr.useL (B := B1) (r_of hX 1 (by omega) d) hA hne ?_ ?_
      · intro w T t r hA hne; exact hok w T t r hA hne
      · rintro z q T k' a b y d2 o rfl; exact hpan z q T k' a b y d2
    refine WP.use1 (r_is1 (mkB [41]) E T t d) ?_
    cases h1 : isT t (mkB [41]) with
    | true =>
      rw [h1] at hne
      refine WP.iteF rfl ?_
      exact WP.leaf ⟨⟨[(0, .box base 0), (4, .box 4 0), (5, .box 5 0)], [(base, rdT E T t d), (4, f0V), (5, fc nm ex a l)]⟩, ⟨⟨.inl rfl, .inl rfl, .inl rfl, trivial⟩, ⟨WkB.box rfl, WkB.box rfl, WkB.box rfl, trivial⟩⟩, hE T t r l hA h1 hne⟩
    | false =>
      rw [h1] at hne
      refine WP.iteT rfl ?_
      have hlen : (psD l).length = l.length := by simp [psD]
      by_cases h0 : 0 < l.length
      · refine WP.iteT (decide_eq_true (by rw [hlen]; omega)) ?_
        simp only [gSep_pos h0] at hne ⊢
        refine Rdr.useL (B := B1) (p := gMust (mkB [44])) (h := fun _ => pParam.bind fun x => (pParams n (l ++ [x])).bind h) (r_must hX (mkB [44]) d) hA hne ?_ ?_
        · intro _ T t r hA hne
          refine go T t r _ hA hne ?_ ?_
          · intro w T t r hA hne
            refine Rdr.useL (B := B1) (r_must hX (mkB [58]) d) hA hne ?_ ?_
            · intro _ T t r hA hne
              refine WP.asrt (by kernel_rfl) ?_
              refine Rdr.useL (B := B1) (r_kind hX d) hA hne ?_ ?_
              · intro ty T t r hA hne
                refine WP.asrt (show ((psD l).length + 1) * 24 ≤ 140737488355328 by rw [hlen]; omega) ?_
                refine WP.asrt (by kernel_rfl) ?_
                refine WP.leaf ?_
                refine params_loop hX d hd nm ex a h n E K d' hE hP T t r (l ++ [⟨w.1, ty⟩]) hA (by rw [List.length_append]; simp; omega) hne _ ?_ ?_ ?_ ?_ ?_ ?_
                · rfl
                · rfl
                · rfl
                · rfl
                · rfl
                · refine ⟨_, rfl, ⟨.inl rfl, .inl rfl, .inl rfl, .inl ?_, .inl rfl, .inl rfl, trivial⟩⟩
                  rw [show psD (l ++ [⟨w.1, ty⟩]) = psD l ++ psD [⟨w.1, ty⟩] from List.map_append]; rfl
              · rintro z q T k' a b y d2 o rfl
                refine WP.asrt (by kernel_rfl) ?_
                exact WP.leaf (hP _ _ _ _ _ _ _ _ _ rfl)
            · rintro z q T k' a b y d2 o rfl
              exact WP.leaf (hP _ _ _ _ _ _ _ _ _ rfl)
          · intro z q T k' a b y d2
            exact WP.leaf (hP _ _ _ _ _ _ _ _ _ rfl)
        · rintro z q T k' a b y d2 o rfl
          exact WP.leaf (hP _ _ _ _ _ _ _ _ _ rfl)
      · refine WP.iteF (decide_eq_false (by rw [hlen]; omega)) ?_
        simp only [gSep_zero h0] at hne ⊢
        refine go T t r _ hA hne ?_ ?_
        · intro w T t r hA hne
          refine Rdr.useL (B := B1) (r_must hX (mkB [58]) d) hA hne ?_ ?_
          · intro _ T t r hA hne
            refine WP.asrt (by kernel_rfl) ?_
            refine Rdr.useL (B := B1) (r_kind hX d) hA hne ?_ ?_
            · intro ty T t r hA hne
              refine WP.asrt (show ((psD l).length + 1) * 24 ≤ 140737488355328 by rw [hlen]; omega) ?_
              refine WP.asrt (by kernel_rfl) ?_
              refine WP.leaf ?_
              refine params_loop hX d hd nm ex a h n E K d' hE hP T t r (l ++ [⟨w.1, ty⟩]) hA (by rw [List.length_append]; simp; omega) hne _ ?_ ?_ ?_ ?_ ?_ ?_
              · rfl
              · rfl
              · rfl
              · rfl
              · rfl
              · refine ⟨_, rfl, ⟨.inl rfl, .inl rfl, .inl rfl, .inl ?_, .inl rfl, .inl rfl, trivial⟩⟩
                rw [show psD (l ++ [⟨w.1, ty⟩]) = psD l ++ psD [⟨w.1, ty⟩] from List.map_append]; rfl
            · rintro z q T k' a b y d2 o rfl
              refine WP.asrt (by kernel_rfl) ?_
              exact WP.leaf (hP _ _ _ _ _ _ _ _ _ rfl)
          · rintro z q T k' a b y d2 o rfl
            exact WP.leaf (hP _ _ _ _ _ _ _ _ _ rfl)
        · intro z q T k' a b y d2
          exact WP.leaf (hP _ _ _ _ _ _ _ _ _ rfl)
theorem must_next {α : Type} {t : Tk} {r : List Tk} {x : ByteArray} (h1 : isT t x = true) (g : Gr α) : runG (.next g) (t :: r) = runG ((gMust x).bind fun _ => g) (t :: r) := by
  show _ = runG ((match isT t x with | true => .next (.ret t.a) | false => .err 140 : Gr Nat).bind fun _ => g) (t :: r)
  rw [h1]; rfl
theorem r_function (hX : LibX X) {n : Nat} (hn : n ≤ 100000000) (ex : Bool) : Rdr X 62 [.box base 0, vB ex] B1 0 0 (pFunc n ex) roF po1 := by
  intro E T t r hA hne
  refine DoesQ.of Tryz.func62 (by kernel_rfl) ?_
  have e1 : pFunc n ex = (gMust kFunc).bind fun _ => (gOf 1).bind fun w => (gOpen (mkB [40]) 0).bind fun _ => (pParams n []).bind fun ps => (gIs (mkB [58])).bind fun
    | true => .next (pType.bind fun t => (pBlock n 0).bind fun b => .ret ⟨w.1, ex, w.2, ps, t, b⟩)
    | false => (pBlock n 0).bind fun b => .ret ⟨w.1, ex, w.2, ps, 0, b⟩ := rfl
  rw [e1] at hne ⊢
  refine Rdr.use (B := B1) (r_must hX kFunc 0) hA hne ?_ ?_
  · intro _ T t r hA hne
    refine Rdr.use (B := B1) (r_of hX 1 (by omega) 0) hA hne ?_ ?_
    · intro w T t r hA hne
      refine Rdr.opened hX (by omega) hA hne ?_ ?_
      · intro h64 T t r hA hne
        refine params_loop hX 1 (by omega) w.1 ex w.2 _ n E _ 0 ?_ ?_ T t r [] hA (by simp; omega) hne _ rfl rfl rfl rfl rfl ?_
        rotate_left
        rotate_left
        · exact ⟨_, rfl, ⟨.inl rfl, .inl rfl, .inl rfl, .inr (.inr ⟨(5, 3), 2, 2, rfl, rfl, rfl, rfl⟩), .inl rfl, .inl rfl, trivial⟩⟩
        · intro T t r l hA h1 hne
          rw [must_next h1] at hne ⊢
          refine Rdr.use (B := B1) (r_close hX (mkB [41]) 0 (by omega)) hA hne ?_ ?_
          · intro _ T t r hA hne
            refine WP.use1 (r_is1 (mkB [58]) E T t 0) ?_
            rw [runG_is] at hne ⊢
            cases h2 : isT t (mkB [58]) with
            | true =>
              rw [h2] at hne
              refine WP.iteT rfl ?_
              refine Rdr.next hX hA (isT_k h2) hne ?_ ?_
              · intro T t r hA hne
                refine Rdr.use (B := B1) (r_kind hX 0) hA hne ?_ ?_
                · intro ty T t r hA hne
                  refine Rdr.use (B := B1) (r_block hX hn 0 (by omega)) hA hne ?_ ?_
                  · intro b T t r hA hne
                    exact WP.leaf ⟨T, t, r, rfl, hA, rfl⟩
                  · rintro z q T k' a b y d2 o rfl; exact WP.leaf rfl
                · rintro z q T k' a b y d2 o rfl; exact WP.leaf rfl
              · intro z q T k' a b y d2; exact WP.leaf rfl
            | false =>
              rw [h2] at hne
              refine WP.iteF rfl ?_
              refine Rdr.use (B := B1) (r_block hX hn 0 (by omega)) hA hne ?_ ?_
              · intro b T t r hA hne
                exact WP.leaf ⟨T, t, r, rfl, hA, rfl⟩
              · rintro z q T k' a b y d2 o rfl; exact WP.leaf rfl
          · rintro z q T k' a b y d2 o rfl; exact WP.leaf rfl
        · intro z q T k a b y d2 σ gb
          exact WP.finPan1 gb
      · intro z q T k' a b y d2; exact WP.leaf rfl
    · rintro z q T k' a b y d2 o rfl; exact WP.leaf rfl
  · rintro z q T k' a b y d2 o rfl; exact WP.leaf rfl
end Go.Proofs.YtacfbgfphkfobaaGreatDoor.Id
/-! ## PaMod -/
namespace Go.Proofs.YtacfbgfphkfobaaGreatDoor.Id
open Go
set_option linter.unusedVariables false
set_option linter.unusedSimpArgs false
set_option maxHeartbeats 1000000
set_option maxRecDepth 100000
variable {X : Given}
abbrev iD (x : TIncl) : List D := [.str x.p, .str x.nm, cZ x.a]
abbrev cD (c : TCons) : List D := [.str c.nm, .bool c.ex, cZ c.a, cZ c.e.k, cZ c.e.a, .str c.e.of, .str c.e.nm, cZ c.e.v.t, cZ c.e.v.i, .bool c.e.v.b, .str c.e.v.s, cZ c.e.op, .sl 10 (dsAll c.e.kids)]
abbrev isD' (l : List TIncl) : List (List D) := l.map fun x => iD x
abbrev csD (l : List TCons) : List (List D) := l.map fun x => cD x
abbrev fsD (l : List TFunc) : List (List D) := l.map fun x => fD x
/-- a module's box, named i -/
abbrev mcA (i : Nat) (m : TMod) : List V := [.own (i, 0) 3 (isD' m.is), .own (i, 1) 13 (csD m.cs), .own (i, 2) 6 (fsD m.fs)]
abbrev mc (m : TMod) : List V := mcA (base + 1) m
abbrev roM (m : TMod) (c : List V) : Out := .ret (.tuple []) [c, mc m]
/-- so long are a module's rows at most -/
def LenM (B : Nat) (m : TMod) : Prop := m.is.length ≤ B ∧ m.cs.length + m.fs.length ≤ B
abbrev poM (B : Nat) (v : V) (c : List V) (o : Out) : Prop := ∃ m, LenM B m ∧ o = .pan v [c, mc m]
theorem WP.finPanM {B : Nat} {fn : Func} {σ : St} {e q : Int} {s : ByteArray} {F T k a b : Int} {y : ByteArray} {d : Int} {m : TMod} (hm : LenM B m) (gb : getB σ.b base = some (rd s F T k a b y d)) (gm : getB σ.b (base + 1) = some (mc m)) : WP X (fin tt fn 2 (.pan (stopV e q), σ)) (poM B (stopV e q) (rd s F T k a b y d)) := by
  have h : outB σ 2 2 = some [rd s F T k a b y d, mc m] := by
    have e : getB σ.b (base + (2 - (1 + 1))) = some (rd s F T k a b y d) := gb
    have e1 : getB σ.b (base + (2 - (0 + 1))) = some (mc m) := gm
    simp only [outB]
    rw [e, e1]; rfl
  unfold fin
  rw [h]
  exact WP.leaf ⟨m, hm, rfl⟩
/-- a token of a kind is taken, ahead of the rest, in a loop -/
theorem Rdr.ofL {β : Type} (hX : LibX X) {n : Nat} (hn : n ≠ 0) {d d'' : Nat} {po' : V → List V → Out → Prop} {ro' : β → List V → Out} {h : ByteArray × Nat → Gr β} {c : Code} {K : Ex → St → Id.T Out} {k : Out → Id.T (Ex × St)} {E : Env} {T : Nat} {t : Tk} {r : List Tk} (hA : At E T t r) (hne : runG ((gOf n).bind h) (t :: r) ≠ .out)
    (hok : t.k = n → ∀ T' t' r', At E T' t' r' → runG (h (t.s, t.a)) (t' :: r') ≠ .out → WP X (k (roW (t.s, t.a) (rdT E T' t' d))) (Round X c K (Post E d'' ro' po' (runG (h (t.s, t.a)) (t' :: r')))))
    (hpan : ∀ (e q T k' a b : Int) (y : ByteArray) (d2 : Int), WP X (k (.pan (stopV e q) [rd E.s E.F T k' a b y d2])) (Round X c K (po' (stopV e q) (rd E.s E.F T k' a b y d2)))) :
    WP X (.call 59 [.box base 0, vI (n : Nat)] [rdT E T t d] k) (Round X c K (Post E d'' ro' po' (runG ((gOf n).bind h) (t :: r)))) := by
  have h1 : runG (gOf n) (t :: r) ≠ .out := fun e => hne (by rw [runG_bind, e]; rfl)
  refine WP.use (r_of hX n hn d E T t r hA h1) fun o ho => ?_
  rw [runG_bind] at hne ⊢
  rcases Post.pan (h := fun x r => runG (h x) r) (d' := d'') (ro' := ro') (po' := po') ho hne with ⟨x, T', t', r', hr, hA', rfl⟩ | ⟨e, q, T', k', a, b, y, d2, rfl, hk⟩
  · rw [hr] at hne ⊢
    have e : runG (gOf n) (t :: r) = runG (match decide (t.k = n) with | true => .next (.ret (t.s, t.a)) | false => .err 140) (t :: r) := rfl
    rw [e] at hr
    by_cases hk : t.k = n
    · simp only [decide_eq_true hk] at hr
      cases r with
      | nil => cases hr
      | cons u r =>
        have hx : (t.s, t.a) = x := congrArg (fun z : Rs (ByteArray × Nat) => match z with | .ok y _ => y | _ => (t.s, t.a)) hr
        subst hx
        exact hok hk T' t' r' hA' hne
    · simp only [decide_eq_false hk] at hr; cases hr
  · exact (hpan e q T' k' a b y d2).mono (Round.mono hk)
theorem incls_loop (hX : LibX X) {B : Nat} (hB : B ≤ 200000000) (c0 : List TCons) (f0 : List TFunc) (hcf : c0.length + f0.length ≤ B) (h : List TIncl → Gr TMod) : ∀ (n : Nat)
    (E : Env) (K : Ex → St → Id.T Out) (hE : ∀ T t r l, At E T t r → l.length ≤ B → runG (h l) (t :: r) ≠ .out → WP X (K (.exit 0) ⟨[(0, .box base 0), (1, .box (base + 1) 0)], [(base, rdT E T t 0), (base + 1, mc ⟨l, c0, f0⟩)]⟩) (Post E 0 roM (poM B) (runG (h l) (t :: r))))
      (hP : ∀ (e q T k a b : Int) (y : ByteArray) (d2 : Int) (m : TMod) (σ : St), LenM B m → getB σ.b base = some (rd E.s E.F T k a b y d2) → getB σ.b (base + 1) = some (mc m) → WP X (K (.pan (stopV e q)) σ) (poM B (stopV e q) (rd E.s E.F T k a b y d2)))
      (T : Nat) (t : Tk) (r : List Tk) (l : List TIncl), At E T t r → n + l.length ≤ B → runG ((pIncls n l).bind h) (t :: r) ≠ .out → ∀ σ : St, getT σ.t 0 = .box base 0 → getT σ.t 1 = .box (base + 1) 0 → getB σ.b base = some (rdT E T t 0) →
      (∃ us, getB σ.b (base + 1) = some us ∧ WkVs σ (mc ⟨l, c0, f0⟩) us) →
      WP X (.loop (lp Tryz.f29 0) σ K) (Post E 0 roM (poM B) (runG ((pIncls n l).bind h) (t :: r)))
  | 0, E, K, hE, hP, T, t, r, l, hA, hl, hne, σ, _, _, _, _ => absurd rfl hne
  | n + 1, E, K, hE, hP, T, t, r, l, hA, hl, hne, σ, g0, g1, gb, gm => by
    have hm : LenM B ⟨l, c0, f0⟩ := ⟨by show l.length ≤ B; omega, hcf⟩
    refine WP.round ⟨[(0, .box base 0), (1, .box (base + 1) 0)], [(base, rdT E T t 0), (base + 1, mc ⟨l, c0, f0⟩)]⟩ ⟨⟨.inl g0.symm, .inl g1.symm, trivial⟩, ⟨WkB.box gb, gm, trivial⟩⟩ ?_
    have e1 : runG ((pIncls (n + 1) l).bind h) (t :: r) = runG (match isT t kInclude with
      | true => (gMust kInclude).bind fun a => (gOf 3).bind fun q => (gMust kAs).bind fun _ => (gOf 1).bind fun w => (gMust (mkB [59])).bind fun _ => (pIncls n (l ++ [⟨txtZ q.1, w.1, a⟩])).bind h
      | false => h l) (t :: r) := by
      show runG ((match isT t kInclude with
        | true => pIncl.bind fun x => pIncls n (l ++ [x])
        | false => .ret l : Gr (List TIncl)).bind h) (t :: r) = _
      cases isT t kInclude with
      | true => simp only [pIncl, gr_assoc]; rfl
      | false => rfl
    rw [e1] at hne ⊢
    refine WP.use1 (r_is1 kInclude E T t 0) ?_
    cases h1 : isT t kInclude with
    | false =>
      rw [h1] at hne
      refine WP.iteF rfl ?_
      exact WP.leaf ⟨⟨[(0, .box base 0), (1, .box (base + 1) 0)], [(base, rdT E T t 0), (base + 1, mc ⟨l, c0, f0⟩)]⟩, ⟨⟨.inl rfl, .inl rfl, trivial⟩, ⟨WkB.box rfl, WkB.box rfl, trivial⟩⟩, hE T t r l hA (by omega) hne⟩
    | true =>
      rw [h1] at hne
      refine WP.iteT rfl ?_
      refine Rdr.useL (B := B1) (r_must hX kInclude 0) hA hne ?_ ?_
      · intro a T t r hA hne
        refine Rdr.ofL hX (n := 3) (by omega) hA hne ?_ ?_
        · intro hk T2 t2 r2 hA2 hne
          have hsz := hA.sz
          refine WP.use1 (ltext t.s (by omega) (by rw [hA.g (by omega), hk])) ?_
          refine Rdr.useL (B := B1) (r_must hX kAs 0) hA2 hne ?_ ?_
          · intro _ T3 t3 r3 hA3 hne
            refine Rdr.useL (B := B1) (r_of hX 1 (by omega) 0) hA3 hne ?_ ?_
            · intro w T4 t4 r4 hA4 hne
              refine Rdr.useL (B := B1) (r_must hX (mkB [59]) 0) hA4 hne ?_ ?_
              · intro _ T5 t5 r5 hA5 hne
                refine WP.asrt (show ((isD' l).length + 1) * 40 ≤ 140737488355328 by simp only [List.length_map]; omega) ?_
                refine WP.leaf ?_
                refine incls_loop hX hB c0 f0 hcf h n E K hE hP T5 t5 r5 (l ++ [⟨txtZ t.s, w.1, a⟩]) hA5 (by rw [List.length_append]; simp; omega) hne _ ?_ ?_ ?_ ?_
                · rfl
                · rfl
                · rfl
                · refine ⟨_, rfl, ⟨.inl ?_, .inl rfl, .inl rfl, trivial⟩⟩
                  rw [show isD' (l ++ [⟨txtZ t.s, w.1, a⟩]) = isD' l ++ isD' [⟨txtZ t.s, w.1, a⟩] from List.map_append]; rfl
              · rintro z q T k' a b y d2 o rfl
                exact WP.leaf (hP _ _ _ _ _ _ _ _ _ _ hm rfl rfl)
            · rintro z q T k' a b y d2 o rfl
              exact WP.leaf (hP _ _ _ _ _ _ _ _ _ _ hm rfl rfl)
          · rintro z q T k' a b y d2 o rfl
            exact WP.leaf (hP _ _ _ _ _ _ _ _ _ _ hm rfl rfl)
        · intro z q T k' a b y d2
          exact WP.leaf (hP _ _ _ _ _ _ _ _ _ _ hm rfl rfl)
      · rintro z q T k' a b y d2 o rfl
        exact WP.leaf (hP _ _ _ _ _ _ _ _ _ _ hm rfl rfl)
/-- one declaration -/
theorem decls_loop (hX : LibX X) {B : Nat} (hB : B ≤ 200000000) : ∀ (n : Nat)
    (E : Env) (K : Ex → St → Id.T Out) (hE : ∀ T t r m, At E T t r → WP X (K (.exit 2) ⟨[(0, .box base 0), (1, .box (base + 1) 0)], [(base, rdT E T t 0), (base + 1, mc m)]⟩) (Post E 0 roM (poM B) (.ok m (t :: r))))
      (hP : ∀ (e q T k a b : Int) (y : ByteArray) (d2 : Int) (m : TMod) (σ : St), LenM B m → getB σ.b base = some (rd E.s E.F T k a b y d2) → getB σ.b (base + 1) = some (mc m) → WP X (K (.pan (stopV e q)) σ) (poM B (stopV e q) (rd E.s E.F T k a b y d2)))
      (T : Nat) (t : Tk) (r : List Tk) (m : TMod), At E T t r → n ≤ 100000000 ∧ m.is.length ≤ B ∧ n + m.cs.length + m.fs.length ≤ B → runG (pDecls n m) (t :: r) ≠ .out → ∀ σ : St, getT σ.t 0 = .box base 0 → getT σ.t 1 = .box (base + 1) 0 → getB σ.b base = some (rdT E T t 0) →
      getB σ.b (base + 1) = some (mc m) →
      WP X (.loop (lp Tryz.f29 1) σ K) (Post E 0 roM (poM B) (runG (pDecls n m) (t :: r)))
  | 0, E, K, hE, hP, T, t, r, l, hA, hl, hne, σ, _, _, _, _ => absurd rfl hne
  | n + 1, E, K, hE, hP, T, t, r, m, hA, hl, hne, σ, g0, g1, gb, gm => by
    have hm : LenM B m := ⟨by omega, by omega⟩
    refine WP.round ⟨[(0, .box base 0), (1, .box (base + 1) 0)], [(base, rdT E T t 0), (base + 1, mc m)]⟩ ⟨⟨.inl g0.symm, .inl g1.symm, trivial⟩, ⟨WkB.box gb, WkB.box gm, trivial⟩⟩ ?_
    have e1 : runG (pDecls (n + 1) m) (t :: r) = runG (match decide (t.k = 0) with
      | true => .ret m
      | false => match isT t kExport with
        | true => .next (pDecl (pDecls n) n true m)
        | false => pDecl (pDecls n) n false m) (t :: r) := rfl
    rw [e1] at hne ⊢
    by_cases h0 : t.k = 0
    · simp only [decide_eq_true h0] at hne ⊢
      refine WP.iteF (by simp [h0]) ?_
      exact WP.leaf ⟨⟨[(0, .box base 0), (1, .box (base + 1) 0)], [(base, rdT E T t 0), (base + 1, mc m)]⟩, ⟨⟨.inl rfl, .inl rfl, trivial⟩, ⟨WkB.box rfl, WkB.box rfl, trivial⟩⟩, hE T t r m hA⟩
    simp only [decide_eq_false h0] at hne ⊢
    refine WP.iteT (by simp; omega) ?_
    refine WP.use1 (r_is1 kExport E T t 0) ?_
    cases hx : isT t kExport with
    | true =>
      rw [hx] at hne
      refine WP.iteT rfl ?_
      refine Rdr.nextL hX hA (isT_k hx) hne ?_ ?_
      rotate_left
      · intro z q T k' a b y d2
        exact WP.leaf (hP _ _ _ _ _ _ _ _ _ _ hm rfl rfl)
      intro T t r hA hne
      unfold pDecl at hne ⊢
      rw [runG_look] at hne ⊢
      refine WP.use1 (r_is1 kConst E T t 0) ?_
      cases hc : isT t kConst with
      | true =>
        rw [hc] at hne
        refine WP.iteT rfl ?_
        simp only [pConst, gr_assoc] at hne ⊢
        rw [← must_next hc] at hne ⊢
        refine Rdr.nextL hX hA (isT_k hc) hne ?_ ?_
        · intro T t r hA hne
          refine Rdr.useL (B := B1) (r_of hX 1 (by omega) 0) hA hne ?_ ?_
          · intro w T t r hA hne
            refine Rdr.useL (B := B1) (r_must hX (mkB [61]) 0) hA hne ?_ ?_
            · intro _ T t r hA hne
              refine Rdr.useL (B := B1) (r_expr hX (by omega) 0 (by omega)) hA hne ?_ ?_
              · intro e T t r hA hne
                refine Rdr.useL (B := B1) (r_must hX (mkB [59]) 0) hA hne ?_ ?_
                · intro _ T t r hA hne
                  refine WP.asrt (by kernel_rfl) ?_
                  refine WP.asrt (show ((csD m.cs).length + 1) * 152 ≤ 140737488355328 by simp only [List.length_map]; omega) ?_
                  refine WP.asrt (by kernel_rfl) ?_
                  refine WP.leaf ?_
                  refine decls_loop hX hB n E K hE hP T t r { m with cs := m.cs ++ [⟨w.1, true, w.2, e⟩] } hA (by simp only [List.length_append, List.length_singleton]; omega) hne _ ?_ ?_ ?_ ?_
                  · rfl
                  · rfl
                  · rfl
                  · show some _ = some [_, V.own (base + 1, 1) 13 (csD (m.cs ++ [⟨w.1, true, w.2, e⟩])), _]
                    rw [show csD (m.cs ++ [⟨w.1, true, w.2, e⟩]) = csD m.cs ++ csD [⟨w.1, true, w.2, e⟩] from List.map_append]; rfl
                · rintro z q T k' a b y d2 o rfl
                  exact WP.leaf (hP _ _ _ _ _ _ _ _ _ _ hm rfl rfl)
              · rintro z q T k' a b y d2 o rfl
                exact WP.leaf (hP _ _ _ _ _ _ _ _ _ _ hm rfl rfl)
            · rintro z q T k' a b y d2 o rfl
              exact WP.leaf (hP _ _ _ _ _ _ _ _ _ _ hm rfl rfl)
          · rintro z q T k' a b y d2 o rfl
            exact WP.leaf (hP _ _ _ _ _ _ _ _ _ _ hm rfl rfl)
        · intro z q T k' a b y d2
          exact WP.leaf (hP _ _ _ _ _ _ _ _ _ _ hm rfl rfl)
      | false =>
        rw [hc] at hne
        refine WP.iteF rfl ?_
        refine WP.use1 (r_is1 kFunc E T t 0) ?_
        cases hf : isT t kFunc with
        | true =>
          rw [hf] at hne
          refine WP.iteT rfl ?_
          refine WP.asrt (by kernel_rfl) ?_
          refine Rdr.useL (B := B1) (r_function hX (by omega) true) hA hne ?_ ?_
          · intro f T t r hA hne
            refine WP.asrt (show ((fsD m.fs).length + 1) * 88 ≤ 140737488355328 by simp only [List.length_map]; omega) ?_
            refine WP.asrt (by kernel_rfl) ?_
            refine WP.leaf ?_
            refine decls_loop hX hB n E K hE hP T t r { m with fs := m.fs ++ [f] } hA (by simp only [List.length_append, List.length_singleton]; omega) hne _ ?_ ?_ ?_ ?_
            · rfl
            · rfl
            · rfl
            · show some _ = some [_, _, V.own (base + 1, 2) 6 (fsD (m.fs ++ [f]))]
              rw [show fsD (m.fs ++ [f]) = fsD m.fs ++ fsD [f] from List.map_append]; rfl
          · rintro z q T k' a b y d2 o rfl
            refine WP.asrt (by kernel_rfl) ?_
            exact WP.leaf (hP _ _ _ _ _ _ _ _ _ _ hm rfl rfl)
        | false =>
          refine WP.iteF rfl ?_
          refine WP.use1 (r_fail _ _ _ _ _ _ _ _ _) ?_
          refine WP.leaf ?_
          refine WP.mono (hP _ _ _ _ _ _ _ _ _ _ hm rfl rfl) ?_
          rintro o ho
          exact ⟨t, r, T, t.k, t.a, _, t.s, _, rfl, by simpa using hA.n, ho⟩
    | false =>
      rw [hx] at hne
      refine WP.iteF rfl ?_
      simp only at hne ⊢
      unfold pDecl at hne ⊢
      rw [runG_look] at hne ⊢
      refine WP.use1 (r_is1 kConst E T t 0) ?_
      cases hc : isT t kConst with
      | true =>
        rw [hc] at hne
        refine WP.iteT rfl ?_
        simp only [pConst, gr_assoc] at hne ⊢
        rw [← must_next hc] at hne ⊢
        refine Rdr.nextL hX hA (isT_k hc) hne ?_ ?_
        · intro T t r hA hne
          refine Rdr.useL (B := B1) (r_of hX 1 (by omega) 0) hA hne ?_ ?_
          · intro w T t r hA hne
            refine Rdr.useL (B := B1) (r_must hX (mkB [61]) 0) hA hne ?_ ?_
            · intro _ T t r hA hne
              refine Rdr.useL (B := B1) (r_expr hX (by omega) 0 (by omega)) hA hne ?_ ?_
              · intro e T t r hA hne
                refine Rdr.useL (B := B1) (r_must hX (mkB [59]) 0) hA hne ?_ ?_
                · intro _ T t r hA hne
                  refine WP.asrt (by kernel_rfl) ?_
                  refine WP.asrt (show ((csD m.cs).length + 1) * 152 ≤ 140737488355328 by simp only [List.length_map]; omega) ?_
                  refine WP.asrt (by kernel_rfl) ?_
                  refine WP.leaf ?_
                  refine decls_loop hX hB n E K hE hP T t r { m with cs := m.cs ++ [⟨w.1, false, w.2, e⟩] } hA (by simp only [List.length_append, List.length_singleton]; omega) hne _ ?_ ?_ ?_ ?_
                  · rfl
                  · rfl
                  · rfl
                  · show some _ = some [_, V.own (base + 1, 1) 13 (csD (m.cs ++ [⟨w.1, false, w.2, e⟩])), _]
                    rw [show csD (m.cs ++ [⟨w.1, false, w.2, e⟩]) = csD m.cs ++ csD [⟨w.1, false, w.2, e⟩] from List.map_append]; rfl
                · rintro z q T k' a b y d2 o rfl
                  exact WP.leaf (hP _ _ _ _ _ _ _ _ _ _ hm rfl rfl)
              · rintro z q T k' a b y d2 o rfl
                exact WP.leaf (hP _ _ _ _ _ _ _ _ _ _ hm rfl rfl)
            · rintro z q T k' a b y d2 o rfl
              exact WP.leaf (hP _ _ _ _ _ _ _ _ _ _ hm rfl rfl)
          · rintro z q T k' a b y d2 o rfl
            exact WP.leaf (hP _ _ _ _ _ _ _ _ _ _ hm rfl rfl)
        · intro z q T k' a b y d2
          exact WP.leaf (hP _ _ _ _ _ _ _ _ _ _ hm rfl rfl)
      | false =>
        rw [hc] at hne
        refine WP.iteF rfl ?_
        refine WP.use1 (r_is1 kFunc E T t 0) ?_
        cases hf : isT t kFunc with
        | true =>
          rw [hf] at hne
          refine WP.iteT rfl ?_
          refine WP.asrt (by kernel_rfl) ?_
          refine Rdr.useL (B := B1) (r_function hX (by omega) false) hA hne ?_ ?_
          · intro f T t r hA hne
            refine WP.asrt (show ((fsD m.fs).length + 1) * 88 ≤ 140737488355328 by simp only [List.length_map]; omega) ?_
            refine WP.asrt (by kernel_rfl) ?_
            refine WP.leaf ?_
            refine decls_loop hX hB n E K hE hP T t r { m with fs := m.fs ++ [f] } hA (by simp only [List.length_append, List.length_singleton]; omega) hne _ ?_ ?_ ?_ ?_
            · rfl
            · rfl
            · rfl
            · show some _ = some [_, _, V.own (base + 1, 2) 6 (fsD (m.fs ++ [f]))]
              rw [show fsD (m.fs ++ [f]) = fsD m.fs ++ fsD [f] from List.map_append]; rfl
          · rintro z q T k' a b y d2 o rfl
            refine WP.asrt (by kernel_rfl) ?_
            exact WP.leaf (hP _ _ _ _ _ _ _ _ _ _ hm rfl rfl)
        | false =>
          refine WP.iteF rfl ?_
          refine WP.use1 (r_fail _ _ _ _ _ _ _ _ _) ?_
          refine WP.leaf ?_
          refine WP.mono (hP _ _ _ _ _ _ _ _ _ _ hm rfl rfl) ?_
          rintro o ho
          exact ⟨t, r, T, t.k, t.a, _, t.s, _, rfl, by simpa using hA.n, ho⟩
abbrev m0V : List V := [.d (.nil 3), .d (.nil 13), .d (.nil 6)]
abbrev BMg (cs c : List V) : List (List V) := [c, cs]
abbrev BM (c : List V) : List (List V) := [c, m0V]
/-- a module, read behind what was read before -/
def pModFrom (n : Nat) (m0 : TMod) : Gr TMod := (pIncls n m0.is).bind fun l => pDecls n ⟨l, m0.cs, m0.fs⟩
theorem r_moduleG (hX : LibX X) {n B : Nat} (hB : B ≤ 200000000) (m0 : TMod) (hn : n ≤ 100000000 ∧ n + m0.is.length ≤ B ∧ n + m0.cs.length + m0.fs.length ≤ B) {cs0 : List V} (hcs : (cs0 = m0V ∧ m0 = ⟨[], [], []⟩) ∨ cs0 = mc m0) : Rdr X 29 [.box base 0, .box (base + 1) 0] (BMg cs0) 0 0 (pModFrom n m0) roM (poM B) := by
  intro E T t r hA hne
  unfold pModFrom at hne ⊢
  have hcf : m0.cs.length + m0.fs.length ≤ B := by omega
  rcases hcs with ⟨rfl, rfl⟩ | rfl
  · refine DoesQ.of Tryz.func29 (by kernel_rfl) ?_
    refine incls_loop hX hB _ _ hcf _ n E _ ?_ ?_ T t r [] hA (by simp at hn ⊢; omega) hne _ ?_ ?_ ?_ ?_
    rotate_left
    rotate_left
    · rfl
    · rfl
    · rfl
    · exact ⟨_, rfl, ⟨.inr (.inr ⟨(base + 1, 0), 3, 3, rfl, rfl, rfl, rfl⟩), .inr (.inr ⟨(base + 1, 1), 13, 13, rfl, rfl, rfl, rfl⟩), .inr (.inr ⟨(base + 1, 2), 6, 6, rfl, rfl, rfl, rfl⟩), trivial⟩⟩
    · intro T t r l hA hl hne
      refine decls_loop hX hB n E _ ?_ ?_ T t r ⟨l, [], []⟩ hA (by simp at hn ⊢; omega) hne _ ?_ ?_ ?_ ?_
      rotate_left
      rotate_left
      · rfl
      · rfl
      · rfl
      · rfl
      · intro T t r m hA
        exact WP.leaf ⟨T, t, r, rfl, hA, rfl⟩
      · intro z q T k a b y d2 m σ hm gb gm
        exact WP.finPanM hm gb gm
    · intro z q T k a b y d2 m σ hm gb gm
      exact WP.finPanM hm gb gm
  · refine DoesQ.of Tryz.func29 (by kernel_rfl) ?_
    refine incls_loop hX hB m0.cs m0.fs hcf _ n E _ ?_ ?_ T t r m0.is hA (by omega) hne _ ?_ ?_ ?_ ?_
    rotate_left
    rotate_left
    · rfl
    · rfl
    · rfl
    · exact ⟨_, rfl, ⟨.inl rfl, .inl rfl, .inl rfl, trivial⟩⟩
    · intro T t r l hA hl hne
      refine decls_loop hX hB n E _ ?_ ?_ T t r ⟨l, m0.cs, m0.fs⟩ hA ⟨by omega, hl, by simp only; omega⟩ hne _ ?_ ?_ ?_ ?_
      rotate_left
      rotate_left
      · rfl
      · rfl
      · rfl
      · rfl
      · intro T t r m hA
        exact WP.leaf ⟨T, t, r, rfl, hA, rfl⟩
      · intro z q T k a b y d2 m σ hm gb gm
        exact WP.finPanM hm gb gm
    · intro z q T k a b y d2 m σ hm gb gm
      exact WP.finPanM hm gb gm
theorem r_module (hX : LibX X) {n : Nat} (hn : n ≤ 100000000) : Rdr X 29 [.box base 0, .box (base + 1) 0] BM 0 0 (pModule n) roM (poM 100000000) :=
  r_moduleG hX (by decide) ⟨[], [], []⟩ ⟨hn, by simpa using hn, by simpa using hn⟩ (.inl ⟨rfl, rfl⟩)
/-- the closures that Module and Fuel hand on -/
theorem r_modfn (hX : LibX X) {n : Nat} (hn : n ≤ 100000000) : Rdr X 28 [.box base 0, .box (base + 1) 0] BM 0 0 (pModule n) roM (poM 100000000) := by
  intro E T t r hA hne
  refine DoesQ.of Tryz.func28 (by kernel_rfl) ?_
  rw [bind_ret (pModule n)] at hne ⊢
  refine Rdr.use (B := BM) (r_module hX hn) hA hne ?_ ?_
  · intro m T t r hA hne
    exact WP.leaf ⟨T, t, r, rfl, hA, rfl⟩
  · rintro z q T k' a b y d2 o ⟨m, hm, rfl⟩
    exact WP.leaf ⟨m, hm, rfl⟩
abbrev BE (c : List V) : List (List V) := [c, e0V]
/-- the closure that Expr hands on -/
theorem r_exprfn (hX : LibX X) {n : Nat} (hn : n ≤ 100000000) : Rdr X 34 [.box base 0, .box (base + 1) 0] BE 0 0 (pLine n 0 0) (fun e c => .ret (.tuple []) [c, eV e]) (fun v c o => ∃ e, o = .pan v [c, e] ∧ e = e0V) := by
  intro E T t r hA hne
  refine DoesQ.of Tryz.func34 (by kernel_rfl) ?_
  rw [bind_ret (pLine n 0 0)] at hne ⊢
  refine Rdr.use (B := B1) (r_expr hX (by omega) 0 (by omega)) hA hne ?_ ?_
  · intro m T t r hA hne
    exact WP.leaf ⟨T, t, r, rfl, hA, rfl⟩
  · rintro z q T k' a b y d2 o rfl
    exact WP.leaf ⟨_, rfl, rfl⟩
end Go.Proofs.YtacfbgfphkfobaaGreatDoor.Id
/-! ## PaRead -/
namespace Go.Proofs.YtacfbgfphkfobaaGreatDoor.Id
open Go
set_option linter.unusedVariables false
set_option linter.unusedSimpArgs false
section
variable {I : World → Prop} {B0 : Nat} {M : Nat → Prop} {X : Given} {x : Aux} {w : World}
theorem wpOps_val {P : Program} {ops : Array Oper} {Q : Exit → Act → World → Prop} {i : Nat} {rest : List Nat} {o : Oper} {v : Value} {a : Act} {w w' : World} (ho : ops[i]? = some o) (hg : o.guard = none) (hr : (execOp a.eval o).run P w = .ok (.value v) w') (h : wpOps P ops Q rest (a.put o.dst v) w') : wpOps P ops Q (i :: rest) a w := by
  simp only [wpOps, ho]
  rw [if_pos (by simp [Region.wanted, hg])]
  refine .inl ?_
  unfold Oper.wp
  rw [hr]; exact h
theorem wpOps_defer {P : Program} {ops : Array Oper} {Q : Exit → Act → World → Prop} {i : Nat} {rest : List Nat} {o : Oper} {d : Deferred} {a : Act} {w w' : World} (ho : ops[i]? = some o) (hg : o.guard = none) (hr : (execOp a.eval o).run P w = .ok (.defer d) w') (h : wpOps P ops Q rest ({ a with defers := d :: a.defers }.put o.dst undef) w') : wpOps P ops Q (i :: rest) a w := by
  simp only [wpOps, ho]
  rw [if_pos (by simp [Region.wanted, hg])]
  refine .inl ?_
  unfold Oper.wp
  rw [hr]; exact h
def codeOf (f : Func) : Code := f.body.getD .skip
def seqL : Code → Code
  | .seq a _ => a
  | c => c
def seqR : Code → Code
  | .seq _ b => b
  | c => c
def opsOf : Code → Array Oper
  | .region _ ops _ => ops
  | _ => #[]
noncomputable abbrev cau1 : Code := seqL (seqR (codeOf Tryz.f54))
noncomputable abbrev cau2 : Code := seqR (seqR (codeOf Tryz.f54))
theorem Sim.put [Ds] {nt : Nat} {t : Tmps} {b : Boxes} {a : Act} {d : Nat} {u : V} {v : Value} (S : Sim I B0 M nt x t b a w) (hd : d < nt) (hv : RepV x u v) : Sim I B0 M nt x ((d, u) :: t) b (a.put (some d) v) w :=
  Sim.eff (scr := []) (drp := []) (dst := some d) S (fun i => rfl) (fun _ _ _ h => h) (fun _ _ => rfl) (fun _ _ => rfl) (fun d' h => by cases h; exact hd) (fun _ => hv) S.ws
theorem put_eval {a : Act} {d : Nat} {v : Value} (h : d < a.tmps.size) : (a.put (some d) v).eval (.tmp d) = v := by
  show (a.tmps.setIfInBounds d v).getD d undef = v
  simp [h]
theorem Sim.less [Ds] {nt : Nat} {t t' : Tmps} {b b' : Boxes} {a : Act} (S : Sim I B0 M nt x t b a w) (ht : ∀ i, getT t' i = .undef ∨ getT t' i = getT t i) (hb : ∀ j cs, getB b' j = some cs → getB b j = some cs) : Sim I B0 M nt x t' b' a w :=
  ⟨fun i => by rcases ht i with h | h <;> rw [h]; trivial; exact S.tm i, S.sz, S.df, S.ws.weak fun j cs h => ⟨cs, hb j cs h, fun _ h => h⟩⟩
theorem caught_r1 (hm : Tryz.prog.follows .mixedOrders = true) (hI : Stable I B0) (hX : GivenOK Tryz.prog X I B0) {a0 : Act} {a b e q : Int} (S0 : Sim I B0 M 19 x [(0, .box base 0), (2, stopV e q)] [(base, [vI a, vI b])] a0 w) (hv2 : a0.eval (.tmp 2) = .iface 136 (.agg #[.int .i64 e, .int .i64 q])) :
    cau1.wp Tryz.prog (Behind I B0 M 19 x w .normal ⟨[(4, .lit true), (3, .box 3 0), (0, .box base 0)], [(3, [vI e, vI q]), (base, [vI a, vI b])]⟩) a0 w := by
  have hB := below_all hm tt_ok hI hX 0
  have hdd : ∀ o ∈ (opsOf cau1).toList, ∀ d, o.dst = some d → d < 19 := fun o ho d hd => by
    have h0 : ((opsOf cau1).toList.all fun o => match o.dst with | some d => Nat.blt d 19 | none => true) = true := by kernel_rfl
    have := List.all_eq_true.1 h0 o ho
    rw [hd] at this
    exact Nat.le_of_ble_eq_true this
  have key : ∃ σ : St, getT σ.t 4 = .lit true ∧ getT σ.t 3 = .box 3 0 ∧ getT σ.t 0 = .box base 0 ∧ getB σ.b 3 = some [vI e, vI q] ∧ getB σ.b base = some [vI a, vI b] ∧ cau1.wp Tryz.prog (Behind I B0 M 19 x w .normal σ) a0 w := by
    refine ⟨?s, ?h1, ?h2, ?h3, ?h4, ?h5, wp_region ?hw⟩
    case hw =>
      show wpOps _ _ _ (0 :: 1 :: List.range' 2 6) _ _
      refine wpOps_val (v := .iface 136 (.agg #[.int .i64 e, .int .i64 q])) (w' := w) rfl rfl ?_ ?_
      · show (execOp a0.eval _).run _ w = _
        rw [← hv2]; rfl
      · have S1 := S0.put (d := 7) (u := stopV e q) (v := .iface 136 (.agg #[.int .i64 e, .int .i64 q])) (by omega) ⟨_, rfl, #[.int .i64 e, .int .i64 q], rfl, _, _, rfl, .int _ _, _, _, rfl, .int _ _, rfl⟩
        have hp := put_eval (a := a0) (d := 7) (v := .iface 136 (.agg #[.int .i64 e, .int .i64 q])) (by rw [S0.sz]; omega)
        refine wpOps_val (v := .tuple #[.agg #[.int .i64 e, .int .i64 q], .bool true]) (w' := w) rfl rfl ?_ ?_
        · show ((fun v => Next.value v) <$> Instr.typeAssert ((a0.put (some 7) (.iface 136 (.agg #[.int .i64 e, .int .i64 q]))).eval (.tmp 7)) 20 136 true).run _ w = _
          rw [hp]
          simp [Instr.typeAssert, go_sem, Tryz.underlying104]
        · have S2 := S1.put (d := 8) (u := .tuple [.agg [cZ e, cZ q], .lit true]) (v := .tuple #[.agg #[.int .i64 e, .int .i64 q], .bool true]) (by omega) ⟨_, rfl, _, _, rfl, ⟨#[.int .i64 e, .int .i64 q], rfl, _, _, rfl, .int _ _, _, _, rfl, .int _ _, rfl⟩, _, _, rfl, rfl, rfl⟩
          refine evOps_ok tt_ok hI hX hB (by decide) hdd ((opsOf cau1).toList.drop 2) 2 x _ _ _ w rfl (Ext.refl _ _) S2 ?_
          exact DenN.leaf _
    case h1 => rfl
    case h2 => rfl
    case h3 => rfl
    case h4 => rfl
    case h5 => rfl
  obtain ⟨σ, h1, h2, h3, h4, h5, hw⟩ := key
  refine wp_mono hw fun en a1 w1 hb => ?_
  obtain ⟨rfl, x', hE, S'⟩ := hb.normal
  have S'' : Sim I B0 M 19 x' [(4, .lit true), (3, .box 3 0), (0, .box base 0)] [(3, [vI e, vI q]), (base, [vI a, vI b])] a1 w1 := by
    refine S'.less (fun i => ?_) (fun j cs hj => ?_)
    · rw [getT_put, getT_put, getT_put]
      split
      · rename_i e; subst e; exact .inr h1.symm
      · split
        · rename_i e; subst e; exact .inr h2.symm
        · split
          · rename_i e; subst e; exact .inr h3.symm
          · exact .inl rfl
    · simp only [getB] at hj
      split at hj
      · rename_i e; rw [← Nat.eq_of_beq_eq_true e]; cases hj; exact h4
      · split at hj
        · rename_i e; rw [← Nat.eq_of_beq_eq_true e]; cases hj; exact h5
        · cases hj
  exact ⟨x', rfl, hE, S''.df, S''.ws, fun _ => S''⟩
theorem caught_rest (hm : Tryz.prog.follows .mixedOrders = true) (hI : Stable I B0) (hX : GivenOK Tryz.prog X I B0) {a0 : Act} {a b e q : Int} (S0 : Sim I B0 M 19 x [(0, .box base 0), (2, stopV e q)] [(base, [vI a, vI b])] a0 w) (hv2 : a0.eval (.tmp 2) = .iface 136 (.agg #[.int .i64 e, .int .i64 q])) :
    (seqR (codeOf Tryz.f54)).wp Tryz.prog (Behind I B0 M 19 x w .normal ⟨[], [(base, [vI e, vI q])]⟩) a0 w := by
  have hB := below_all hm tt_ok hI hX 0
  refine wp_seq (wp_mono (caught_r1 hm hI hX S0 hv2) fun en a1 w1 hb => ?_)
  obtain ⟨rfl, x', hE, S'⟩ := hb.normal
  have key : ∃ σ : St, getB σ.b base = some [vI e, vI q] ∧ cau2.wp Tryz.prog (Behind I B0 M 19 x' w1 .normal σ) a1 w1 := by
    refine ⟨?s, ?h1, ?hw⟩
    case hw =>
      refine evCode_ok hm tt_ok hI hX (by decide) 0 hB cau2 (by kernel_rfl) (fun h => by cases h) none x' _ _ a1 w1 .normal _ S' ?_
      exact DenN.leaf _
    case h1 => rfl
  obtain ⟨σ, h1, hw⟩ := key
  refine wp_mono hw fun en a2 w2 hb => ?_
  obtain ⟨rfl, x2, hE2, S2⟩ := hb.normal
  have S3 : Sim I B0 M 19 x2 [] [(base, [vI e, vI q])] a2 w2 := S2.less (fun i => .inl rfl) fun j cs hj => by
    simp only [getB] at hj
    split at hj
    · rename_i e; rw [← Nat.eq_of_beq_eq_true e]; cases hj; exact h1
    · cases hj
  exact ⟨x2, rfl, hE.trans hE2, S3.df, S3.ws, fun _ => S3⟩
theorem caught_pan (hm : Tryz.prog.follows .mixedOrders = true) (hI : Stable I B0) (hX : GivenOK Tryz.prog X I B0) {vs : Array Value} {a b e q : Int} (hargs : RepVs x [.box base 0] vs.toList) (S : WSim I B0 M x [(base, [vI a, vI b])] w) :
    CallsD Tryz.prog 54 vs (.panicking [{ v := .iface 136 (.agg #[.int .i64 e, .int .i64 q]), recovered := false }]) w fun en u' w' =>
      en = .returned (.tuple #[]) ∧ u' = .panicking [{ v := .iface 136 (.agg #[.int .i64 e, .int .i64 q]), recovered := true }] ∧ ∃ x', Ext M x w x' w' ∧ WSim I B0 M x' [(base, [vI e, vI q])] w' := by
  obtain ⟨v, l, hl, hv, hnil⟩ := hargs
  have hnil' : l = [] := hnil
  subst hnil'
  have hv' : v = .pointer (some ⟨x.ρ base, 0, none⟩) := hv
  obtain rfl : vs = #[v] := by cases vs; simp_all
  subst hv'
  refine callsD_of_wpS Tryz.func54 rfl fun c₀ cs hu => ?_
  apply wpS_seq
  apply wpS_region
  simp [wpOpsS, go_sem, recoverD, hu, Tryz.ntmps54, Exit.thenS]
  refine wpS_of_wp ?_
  refine wp_mono (caught_rest hm hI hX (a := a) (b := b) (e := e) (q := q) ⟨fun i => ?_, by simp, rfl, S⟩ (by simp [Act.eval])) fun en a1 w1 hb => ?_
  · match i with
    | 0 =>
      rw [Array.getD_eq_getD_getElem?]
      simp
      exact rfl
    | 1 => trivial
    | 2 =>
      rw [Array.getD_eq_getD_getElem?]
      simp
      exact ⟨_, rfl, #[.int .i64 e, .int .i64 q], rfl, _, _, rfl, .int _ _, _, _, rfl, .int _ _, rfl⟩
    | n + 3 => trivial
  · obtain ⟨rfl, x', hE, S'⟩ := hb.normal
    simp [bodyPostS, results, Tryz.results54, go_sem]
    exact ⟨S'.df, x', hE, S'.ws⟩
/-- what the caught call without a panic leaves -/
theorem caught_idle (hI : Stable I B0) {vs : Array Value} {b : Boxes} (hargs : RepVs x [.box base 0] vs.toList) (S : WSim I B0 M x b w) :
    CallsD Tryz.prog 54 vs .returning w fun en u' w' =>
      en = .returned (.tuple #[]) ∧ u' = .returning ∧ ∃ x', Ext M x w x' w' ∧ WSim I B0 M x' b w' := by
  obtain ⟨v, l, hl, hv, hnil⟩ := hargs
  have hnil' : l = [] := hnil
  subst hnil'
  have hv' : v = .pointer (some ⟨x.ρ base, 0, none⟩) := hv
  obtain rfl : vs = #[v] := by cases vs; simp_all
  subst hv'
  refine callsD_of_wpS Tryz.func54 rfl fun c₀ cs hu => ?_
  apply wpS_seq
  apply wpS_region
  simp [wpOpsS, go_sem, recoverD, hu, Tryz.ntmps54, Exit.thenS]
  refine wpS_of_wp ?_
  refine wp_seq (wp_region ?_)
  simp [wpOps, go_sem, Exit.then, Instr.typeAssert, Tryz.underlying104]
  iterate 8 refine .inl ?_
  refine wp_seq (wp_region ?_)
  simp [wpOps, go_sem, Exit.then]
  refine .inl ?_
  refine wp_cond_false (by simp [Act.eval]) ?_
  refine wp_seq (wp_region ?_)
  simp [wpOps, go_sem, Exit.then]
  refine .inl (.inl ?_)
  refine wp_cond_false (by simp [Act.eval]) ?_
  refine wp_skip ?_
  simp [bodyPostS, results, Tryz.results54, go_sem]
  refine ⟨.returning, ?_, rfl, x, ⟨rfl, rfl, rfl, by show _ ≤ (w.heap.push _).size; simp, fun k hk => ?_, fun _ _ _ h => h, fun _ _ => rfl, fun _ _ => rfl⟩, S.push hI (o := .cells #[.int .i64 0, .int .i64 0] 136) rfl⟩
  · cases c₀; simp_all
  · have : k < w.heap.size := Nat.lt_of_not_le fun h => hk (S.top k h)
    exact push_lt this
/-- what the result taken is laid as, on the way out -/
theorem read1_does (hX : LibX X) (s : ByteArray) (F T k a b : Int) (z : ByteArray) (d q : Int) : Does X 53 [.box base 0, .box (base + 1) 0] [[.box (base + 2) 0], [vI q], rd s F T k a b z d] (.ret (.tuple []) [[.box (base + 2) 0], [vI T], rd s F T k a b z d]) := by
  refine DoesQ.eq (DoesQ.of Tryz.func53 (by kernel_rfl) ?_)
  exact WP.leaf rfl
end
end Go.Proofs.YtacfbgfphkfobaaGreatDoor.Id
/-! ## PaReadB -/
namespace Go.Proofs.YtacfbgfphkfobaaGreatDoor.Id
open Go
set_option linter.unusedVariables false
set_option linter.unusedSimpArgs false
section
variable {I : World → Prop} {B0 : Nat} {M : Nat → Prop} {X : Given} {x : Aux} {w : World} {b : Boxes}
abbrev idF (ids : List Nat) : Nat → Option Nat := fun i => (posOf i ids 0).map (base + ·)
theorem callee_args (S : WSim I B0 M x b w) {ids : List Nat} (hnd : ids.Nodup) {bx : List (List V)} (hin : boxesIn (getB b) (idF ids) ids 0 = some bx) {args : List V} {l : List Value} (h : RepNs x args l) : RepVs (calleeAux x b ids) (normVs (rens (idF ids) args)) l := by
  obtain ⟨S2, hren⟩ := callee_in S hnd hin
  refine normVs_rep ?_
  have : ∀ (us : List V) (l : List Value), RepNs x us l → RepNs (calleeAux x b ids) (rens (idF ids) us) l := by
    intro us
    induction us with
    | nil => intro l r; exact r
    | cons u us ih => intro l ⟨v, vs, e, p, q⟩; exact ⟨v, vs, e, hren u v p, ih vs q⟩
  exact this _ _ h
/-- what a deferred call leaves, seen from its caller -/
theorem outD (S : WSim I B0 M x b w) (hI : Stable I B0) {ids : List Nat} (hnd : ids.Nodup) {bx : List (List V)} (hin : boxesIn (getB b) (idF ids) ids 0 = some bx) {bx' : List (List V)} {wr : Boxes} (hout : boxesOut ids ids 0 bx' = some wr)
    {P : Program} {f : FuncId} {vs : Array Value} {u : FrameMode} {R : Ending → FrameMode → Prop}
    (h : CallsD P f vs u w fun en u' w' => R en u' ∧ ∃ x', Ext (calleeMay x b ids w) (calleeAux x b ids) w x' w' ∧ WSim I B0 (calleeMay x b ids w) x' (number base bx' 0) w') :
    CallsD P f vs u w fun en u' w' => R en u' ∧ ∃ x', EffOK I B0 M x b { v := .undef, wr := wr, scr := catK (allToks (boxesAt (getB b) ids)) (allToks wr) } w undef x' w' :=
  h.mono fun en u' w' ⟨hr, x', hE, S'⟩ => ⟨hr, _, callee_out S hI hnd hin hE S' hout (u := .undef) (v := undef) rfl trivial⟩
theorem Sim.after [Ds] {nt : Nat} {x' : Aux} {w' : World} {t : Tmps} {a : Act} {wr : Boxes} {v : Value} (S : Sim I B0 M nt x t b a w) (hE : EffOK I B0 M x b { v := .undef, wr := wr, scr := [] } w v x' w') : Sim I B0 M nt x' t (catB wr b) a w' :=
  ⟨fun i => by have := (S.tm i).clean hE.sub hE.ρ hE.z; rwa [cleanV_nil] at this, S.sz, S.df, hE.ws b fun i => by
    cases getB b i with
    | none => rfl
    | some cs => exact congrArg some (cleanVs_nil cs).symm⟩
/-- a function that the ideal machine brings to its end, as a deferred call -/
theorem bodyD (hm : Tryz.prog.follows .mixedOrders = true) (hI : Stable I B0) (hX : GivenOK Tryz.prog X I B0) {f : FuncId} {fn : Func} {args : List V} {bx bx' : List (List V)} (hf : Tryz.prog.funcs[f]? = some fn) (h : Den Tryz.prog tt X (evBody tt none fn args bx) (.ret (.tuple []) bx')) {vs : Array Value} (hargs : RepVs x args vs.toList) (S : WSim I B0 M x (number base bx 0) w) (u : FrameMode) :
    CallsD Tryz.prog f vs u w fun en u' w' => (en = .returned (.tuple #[]) ∧ u' = u) ∧ ∃ x', Ext M x w x' w' ∧ WSim I B0 M x' (number base bx' 0) w' := by
  obtain ⟨n, h⟩ := h
  obtain ⟨c, hc, hw⟩ := body_wp hm tt_ok hI hX (below_all hm tt_ok hI hX n) hf h hargs S
  refine (callsD_of_wp hf hc hw).mono fun en u' w' ⟨hu, x', hE, rv, he, hr, S'⟩ => ?_
  obtain ⟨l, rfl, hl⟩ := hr
  have : l = #[] := by
    have hl' : l.toList = [] := hl
    exact Array.toList_eq_nil_iff.1 hl'
  subst this
  exact ⟨⟨he, hu⟩, x', hE, S'⟩
theorem read1_den (s : ByteArray) (F T k a b : Int) (z : ByteArray) (d q : Int) : Den Tryz.prog tt X (evBody tt none Tryz.f53 [.box base 0, .box (base + 1) 0] [[.box (base + 2) 0], [vI q], rd s F T k a b z d]) (.ret (.tuple []) [[.box (base + 2) 0], [vI T], rd s F T k a b z d]) := by
  have h : WP X (evBody tt none Tryz.f53 [.box base 0, .box (base + 1) 0] [[.box (base + 2) 0], [vI q], rd s F T k a b z d]) (· = .ret (.tuple []) [[.box (base + 2) 0], [vI T], rd s F T k a b z d]) := WP.leaf rfl
  obtain ⟨_, rfl, h⟩ := h
  exact h
/-- the boxes of parse.read -/
abbrev rdB (z e q : Int) (r cs : List V) : Boxes := [(base, cs), (base + 1, [vI z]), (base + 2, [vI e, vI q]), (base + 3, [.box (base + 4) 0]), (base + 4, r)]
abbrev d1 (x : Aux) : Deferred := { target := .fn (.func 53) #[.pointer (some ⟨x.ρ (base + 3), 0, none⟩), .pointer (some ⟨x.ρ (base + 1), 0, none⟩)], args := #[] }
abbrev d2 (x : Aux) : Deferred := { target := .fn (.func 54) #[], args := #[.pointer (some ⟨x.ρ (base + 2), 0, none⟩)] }
theorem read_leave1 (hm : Tryz.prog.follows .mixedOrders = true) (hI : Stable I B0) (hX : GivenOK Tryz.prog X I B0) [Ds] {x0 : Aux} {w0 : World} (hE0 : Ext M x0 w0 x w) {R : Ending → World → Prop} {s : ByteArray} {F T k a b d z e q : Int} {y : ByteArray} {cs : List V} {t : Tmps} {act : Act} (h6 : getT t 6 = .box (base + 1) 0) (h7 : getT t 7 = .box (base + 2) 0)
    (S : Sim I B0 M 37 x t (rdB z e q (rd s F T k a b y d) cs) act w) {x1 : Aux} (hx1 : ∀ i, base ≤ i → x1.ρ i = x.ρ i)
    (hR : ∀ x' w' rv, Ext M x0 w0 x' w' → RepN x' (.tuple [vI T, .agg [cZ e, cZ q]]) rv → WSim I B0 M x' (rdB T e q (rd s F T k a b y d) cs) w' → R (.returned rv) w') :
    Leaves Tryz.prog Tryz.f27 act.tmps R [d1 x1] .returning w := by
  refine leaves_cons (f := 53) (args := #[.pointer (some ⟨x1.ρ (base + 3), 0, none⟩), .pointer (some ⟨x1.ρ (base + 1), 0, none⟩)]) (by simp) (by simp [go_sem]) ?_
  rw [hx1 (base + 3) (by omega), hx1 (base + 1) (by omega)]
  have hin : boxesIn (getB (rdB z e q (rd s F T k a b y d) cs)) (idF [base + 3, base + 1, base + 4]) [base + 3, base + 1, base + 4] 0 = some [[.box (base + 2) 0], [vI z], rd s F T k a b y d] := rfl
  refine (outD S.ws hI (by simp) hin (bx' := [[.box (base + 2) 0], [vI T], rd s F T k a b y d]) (wr := [(base + 3, [.box (base + 4) 0]), (base + 1, [vI T]), (base + 4, rd s F T k a b y d)]) rfl (bodyD hm hI hX Tryz.func53 (read1_den s F T k a b y d z) (callee_args S.ws (by simp) hin (args := [.box (base + 3) 0, .box (base + 1) 0]) ⟨_, _, rfl, rfl, _, _, rfl, rfl, rfl⟩) (callee_in S.ws (by simp) hin).1 .returning)).mono ?_
  rintro en u' w' ⟨⟨rfl, rfl⟩, x', hE⟩
  have S' := S.after hE
  have S2 : Sim I B0 M 37 x' [(6, .box (base + 1) 0), (7, .box (base + 2) 0)] (rdB T e q (rd s F T k a b y d) cs) act w' := S'.less (fun i => by
    rw [getT_put, getT_put]
    split
    · rename_i e9; subst e9; exact .inr h6.symm
    · split
      · rename_i e9; subst e9; exact .inr h7.symm
      · exact .inl rfl) (fun j cs' hj => by
    simp only [rdB, catB, getB] at hj ⊢
    split at hj
    · rename_i e9; first | exact hj | (rw [← Nat.eq_of_beq_eq_true e9]; exact hj)
    · split at hj
      · rename_i e9; first | exact hj | (rw [← Nat.eq_of_beq_eq_true e9]; exact hj)
      · split at hj
        · rename_i e9; first | exact hj | (rw [← Nat.eq_of_beq_eq_true e9]; exact hj)
        · split at hj
          · rename_i e9; first | exact hj | (rw [← Nat.eq_of_beq_eq_true e9]; exact hj)
          · split at hj
            · rename_i e9; first | exact hj | (rw [← Nat.eq_of_beq_eq_true e9]; exact hj)
            · cases hj)
  obtain ⟨rvs, k1, k2⟩ := resAll_rep (P := Tryz.prog) (σ := ⟨[(6, .box (base + 1) 0), (7, .box (base + 2) 0)], rdB T e q (rd s F T k a b y d) cs⟩) tt_ok S2 (rs := Tryz.f27.results.toList) (us := [vI T, .agg [cZ e, cZ q]]) rfl
  exact ⟨_, results_eq _ _ _ k1, hR x' w' _ (hE0.trans hE.ext) (oneRes_rep k2) S2.ws⟩
/-- on the way out without a panic -/
theorem read_leaveI (hm : Tryz.prog.follows .mixedOrders = true) (hI : Stable I B0) (hX : GivenOK Tryz.prog X I B0) [Ds] {x0 : Aux} {w0 : World} (hE0 : Ext M x0 w0 x w) {R : Ending → World → Prop} {s : ByteArray} {F T k a b d z e q : Int} {y : ByteArray} {cs : List V} {t : Tmps} {act : Act} (h6 : getT t 6 = .box (base + 1) 0) (h7 : getT t 7 = .box (base + 2) 0)
    (S : Sim I B0 M 37 x t (rdB z e q (rd s F T k a b y d) cs) act w) {x1 : Aux} (hx1 : ∀ i, base ≤ i → x1.ρ i = x.ρ i)
    (hR : ∀ x' w' rv, Ext M x0 w0 x' w' → RepN x' (.tuple [vI T, .agg [cZ e, cZ q]]) rv → WSim I B0 M x' (rdB T e q (rd s F T k a b y d) cs) w' → R (.returned rv) w') :
    Leaves Tryz.prog Tryz.f27 act.tmps R [d2 x1, d1 x1] .returning w := by
  refine leaves_cons (f := 54) (args := #[.pointer (some ⟨x1.ρ (base + 2), 0, none⟩)]) (by simp) (by simp [go_sem]) ?_
  rw [hx1 (base + 2) (by omega)]
  have hin : boxesIn (getB (rdB z e q (rd s F T k a b y d) cs)) (idF [base + 2]) [base + 2] 0 = some [[vI e, vI q]] := rfl
  have C := caught_idle (vs := #[.pointer (some ⟨x.ρ (base + 2), 0, none⟩)]) hI (callee_args S.ws (by simp) hin (args := [.box (base + 2) 0]) ⟨_, _, rfl, rfl, rfl⟩) (callee_in S.ws (by simp) hin).1
  refine (outD S.ws hI (by simp) hin (bx' := [[vI e, vI q]]) (wr := [(base + 2, [vI e, vI q])]) rfl (R := fun en u' => en = .returned (.tuple #[]) ∧ u' = .returning) (C.mono fun en u' w' ⟨h1, h2, h3⟩ => ⟨⟨h1, h2⟩, h3⟩)).mono ?_
  rintro en u' w' ⟨⟨rfl, rfl⟩, x', hE⟩
  refine read_leave1 hm hI hX (hE0.trans hE.ext) h6 h7 (z := z) (k := k) (a := a) (b := b) (y := y) (d := d) (s := s) (F := F) ((S.after hE).less (fun i => .inr rfl) fun j cs' hj => ?_) (fun i hi => (hx1 i hi).trans (hE.ρ i (by simp)).symm) hR
  rw [← hj]
  simp only [rdB, catB, getB]
  split
  · rename_i e9; rw [← Nat.eq_of_beq_eq_true e9]; rfl
  · rfl
/-- on the way out of a panic -/
theorem read_leaveP (hm : Tryz.prog.follows .mixedOrders = true) (hI : Stable I B0) (hX : GivenOK Tryz.prog X I B0) [Ds] {x0 : Aux} {w0 : World} (hE0 : Ext M x0 w0 x w) {R : Ending → World → Prop} {s : ByteArray} {F T k a b d z e q e' q' : Int} {y : ByteArray} {cs : List V} {t : Tmps} {act : Act} (h6 : getT t 6 = .box (base + 1) 0) (h7 : getT t 7 = .box (base + 2) 0)
    (S : Sim I B0 M 37 x t (rdB z e' q' (rd s F T k a b y d) cs) act w) {x1 : Aux} (hx1 : ∀ i, base ≤ i → x1.ρ i = x.ρ i)
    (hR : ∀ x' w' rv, Ext M x0 w0 x' w' → RepN x' (.tuple [vI T, .agg [cZ e, cZ q]]) rv → WSim I B0 M x' (rdB T e q (rd s F T k a b y d) cs) w' → R (.returned rv) w') :
    Leaves Tryz.prog Tryz.f27 act.tmps R [d2 x1, d1 x1] (.panicking [{ v := .iface 136 (.agg #[.int .i64 e, .int .i64 q]), recovered := false }]) w := by
  refine leaves_cons (f := 54) (args := #[.pointer (some ⟨x1.ρ (base + 2), 0, none⟩)]) (by simp) (by simp [go_sem]) ?_
  rw [hx1 (base + 2) (by omega)]
  have hin : boxesIn (getB (rdB z e' q' (rd s F T k a b y d) cs)) (idF [base + 2]) [base + 2] 0 = some [[vI e', vI q']] := rfl
  have C := caught_pan (vs := #[.pointer (some ⟨x.ρ (base + 2), 0, none⟩)]) hm hI hX (e := e) (q := q) (callee_args S.ws (by simp) hin (args := [.box (base + 2) 0]) ⟨_, _, rfl, rfl, rfl⟩) (callee_in S.ws (by simp) hin).1
  refine (outD S.ws hI (by simp) hin (bx' := [[vI e, vI q]]) (wr := [(base + 2, [vI e, vI q])]) rfl (R := fun en u' => en = .returned (.tuple #[]) ∧ u' = _) (C.mono fun en u' w' ⟨h1, h2, h3⟩ => ⟨⟨h1, h2⟩, h3⟩)).mono ?_
  rintro en u' w' ⟨⟨rfl, rfl⟩, x', hE⟩
  refine read_leave1 hm hI hX (hE0.trans hE.ext) h6 h7 (z := z) (k := k) (a := a) (b := b) (y := y) (d := d) (s := s) (F := F) ((S.after hE).less (fun i => .inr rfl) fun j cs' hj => ?_) (fun i hi => (hx1 i hi).trans (hE.ρ i (by simp)).symm) hR
  rw [← hj]
  simp only [rdB, catB, getB]
  split
  · rename_i e9; rw [← Nat.eq_of_beq_eq_true e9]; rfl
  · rfl
end
end Go.Proofs.YtacfbgfphkfobaaGreatDoor.Id
/-! ## PaReadC -/
namespace Go.Proofs.YtacfbgfphkfobaaGreatDoor.Id
open Go
set_option linter.unusedVariables false
set_option linter.unusedSimpArgs false
section
variable {I : World → Prop} {B0 : Nat} {M : Nat → Prop} {X : Given} {x : Aux} {w : World} {b : Boxes}
theorem getT_sub {t : Tmps} : ∀ {t' : Tmps}, (∀ p ∈ t', getT t p.1 = p.2) → ∀ i, getT t' i = .undef ∨ getT t' i = getT t i
  | [], h, i => .inl rfl
  | (j, v) :: r, h, i => by
    rw [getT_put]
    split
    · rename_i e9; subst e9; exact .inr (h _ (List.mem_cons_self ..)).symm
    · exact getT_sub (fun p hp => h p (List.mem_cons_of_mem _ hp)) i
theorem getB_sub {b : Boxes} : ∀ {b' : Boxes}, (∀ p ∈ b', getB b p.1 = some p.2) → ∀ j cs, getB b' j = some cs → getB b j = some cs
  | [], h, j, cs, hj => by cases hj
  | (i, c) :: r, h, j, cs, hj => by
    simp only [getB] at hj
    split at hj
    · rename_i e9; rw [← Nat.eq_of_beq_eq_true e9]; cases hj; exact h _ (List.mem_cons_self ..)
    · exact getB_sub (fun p hp => h p (List.mem_cons_of_mem _ hp)) j cs hj
theorem Sim.trim [Ds] {nt : Nat} {t t' : Tmps} {b b' : Boxes} {a : Act} (S : Sim I B0 M nt x t b a w) (ht : ∀ p ∈ t', getT t p.1 = p.2) (hb : ∀ p ∈ b', getB b p.1 = some p.2) : Sim I B0 M nt x t' b' a w :=
  S.less (getT_sub ht) (getB_sub hb)
noncomputable abbrev rdc : Code := codeOf Tryz.f27
noncomputable abbrev rdRest : Code := seqR (seqR (seqR (seqR rdc)))
abbrev rdT0 (s : ByteArray) (f0 : V) : Tmps := [(0, vS s), (2, f0), (6, .box 6 0), (7, .box 7 0), (8, .box 8 0)]
abbrev rdB0 (r cs : List V) : Boxes := [(6, [vI 0]), (7, [vI 0, vI 0]), (8, [.box 13 0]), (13, r), (base, cs)]
/-- the same, seen as from a callee -/
abbrev rdT1 (s : ByteArray) (f0 : V) : Tmps := [(0, vS s), (2, f0), (6, .box (base + 1) 0), (7, .box (base + 2) 0), (8, .box (base + 3) 0)]
abbrev rdI : List Nat := [base, 6, 7, 8, 13]
abbrev rdL (z e q : Int) (r cs : List V) : List (List V) := [cs, [vI z], [vI e, vI q], [.box (base + 4) 0], r]
/-- where the body of parse.read comes to -/
def RdEnd (s : ByteArray) (F T e q : Int) (cs : List V) : Ex × St → Prop := fun (ex, σ) =>
  getT σ.t 6 = .box (base + 1) 0 ∧ getT σ.t 7 = .box (base + 2) 0 ∧ ∃ (z e' q' k a b : Int) (y : ByteArray) (d : Int), (∀ p ∈ rdB z e' q' (rd s F T k a b y d) cs, getB σ.b p.1 = some p.2) ∧ match ex with
    | .normal | .ret => e' = e ∧ q' = q
    | .pan v => v = stopV e q
    | _ => False
def mx (F : Int) : Int := if F < 0 then 0 else F
structure ReadRun (X : Given) (s : ByteArray) (F : Int) (f0 : V) (cs : List V) (T e q : Int) (cs' : List V) : Prop where
  r0 : WP X (evCode tt none (seqL rdc) [(0, vS s), (1, vI F), (2, f0)] [(base, cs)]) fun p => p.1 = .normal ∧ (∀ q ∈ [(0, vS s), (1, vI F), (2, f0), (6, .box 6 0), (7, .box 7 0)], getT p.2.t q.1 = q.2) ∧ ∀ q ∈ [(6, [vI 0]), (7, [vI 0, vI 0]), (base, cs)], getB p.2.b q.1 = some q.2
  r1 : WP X (evCode tt none (seqL (seqR rdc)) [(0, vS s), (1, vI F), (2, f0), (6, .box 6 0), (7, .box 7 0)] [(6, [vI 0]), (7, [vI 0, vI 0]), (base, cs)]) fun p => p.1 = .normal ∧ (∀ q ∈ rdT0 s f0, getT p.2.t q.1 = q.2) ∧ ∀ q ∈ rdB0 (rd s (mx F) 0 0 0 0 .empty 0) cs, getB p.2.b q.1 = some q.2
  hf : ren (idF rdI) f0 = f0
  hf' : ∀ t n es, f0 ≠ .own t n es
  hin : boxesIn (getB (rdB0 (rd s (mx F) 0 0 0 0 .empty 0) cs)) (idF rdI) rdI 0 = some (rdL 0 0 0 (rd s (mx F) 0 0 0 0 .empty 0) cs)
  hout : ∀ (k a b : Int) (y : ByteArray) (d : Int), ∃ wr, boxesOut rdI rdI 0 (rdL T e q (rd s (mx F) T k a b y d) cs') = some wr ∧ ∀ b, getB (catB wr b) base = some cs'
  run : WP X (evCode tt none rdRest (rdT1 s f0) (rdB 0 0 0 (rd s (mx F) 0 0 0 0 .empty 0) cs)) (RdEnd s (mx F) T e q cs')
/-- a stretch that the ideal machine runs -/
theorem run_ok [Ds] (hm : Tryz.prog.follows .mixedOrders = true) (hI : Stable I B0) (hX : GivenOK Tryz.prog X I B0) {nt : Nat} (hn : nt ≤ base) {c : Code} (hd : dstOk nt c = true) (hnd : Ds.nd = true → noDraw c = true) {t : Tmps} {b : Boxes} {a : Act} {Q : Ex × St → Prop} (S : Sim I B0 M nt x t b a w) (h : WP X (evCode tt none c t b) Q) : c.wp Tryz.prog (fun e a' w' => ∃ ex σ, Q (ex, σ) ∧ Behind I B0 M nt x w ex σ e a' w') a w := by
  obtain ⟨⟨ex, σ⟩, hQ, n, h⟩ := h
  exact wp_mono (evCode_ok hm tt_ok hI hX hn n (below_all hm tt_ok hI hX n) c hd hnd none x t b a w ex σ S h) fun e a' w' hb => ⟨ex, σ, hQ, hb⟩
abbrev modF : V := .fn 28 [] [.box base 0]
abbrev exprF : V := .fn 34 [] [.box base 0]
/-- parse.read comes to what it hands back -/
def ReadX (X : Given) : Given := fun f args bx o => f = 27 ∧ ∃ (s : ByteArray) (F : Int) (f0 : V) (cs cs' : List V) (T e q : Int), args = [vS s, vI F, f0] ∧ bx = [cs] ∧ o = .ret (.tuple [vI T, .agg [cZ e, cZ q]]) [cs'] ∧ ReadRun X s F f0 cs T e q cs'
theorem Sim.newDs {D D' : Ds} {nt : Nat} {t : Tmps} {a a' : Act} (S : @Sim I B0 M D nt x t b a w) (h1 : a'.tmps = a.tmps) (h2 : a'.defers = D'.l) : @Sim I B0 M D' nt x t b a' w :=
  @Sim.mk I B0 M D' nt x t b a' w (fun i => by rw [h1]; exact @Sim.tm I B0 M D nt x t b a w S i) (by rw [h1]; exact @Sim.sz I B0 M D nt x t b a w S) h2 (@Sim.ws I B0 M D nt x t b a w S)
theorem read_rest (hm : Tryz.prog.follows .mixedOrders = true) (hI : Stable I B0) (hX : GivenOK Tryz.prog X I B0) {x0 : Aux} {w0 : World} (hE0 : Ext M x0 w0 x w) {s : ByteArray} {F : Int} {f0 : V} {cs cs' : List V} {T e q : Int} {a : Act} {R : Ending → World → Prop}
    (S : Sim I B0 M 37 x (rdT1 s f0) (rdB 0 0 0 (rd s (mx F) 0 0 0 0 .empty 0) cs) a w) (hr : WP X (evCode tt none rdRest (rdT1 s f0) (rdB 0 0 0 (rd s (mx F) 0 0 0 0 .empty 0) cs)) (RdEnd s (mx F) T e q cs'))
    (hR : ∀ x' w' rv k a b y d, Ext M x0 w0 x' w' → RepN x' (.tuple [vI T, .agg [cZ e, cZ q]]) rv → WSim I B0 M x' (rdB T e q (rd s (mx F) T k a b y d) cs') w' → R (.returned rv) w') :
    (seqR (seqR rdc)).wp Tryz.prog (bodyPostD Tryz.prog Tryz.f27 R) a w := by
  have hp : ∀ j k, getT (rdT1 s f0) j = .box k 0 → a.eval (.tmp j) = .pointer (some ⟨x.ρ k, 0, none⟩) := fun j k h => by
    have := S.tm j
    rw [h] at this
    exact this
  have hq : ∀ j k, getT (rdT1 s f0) j = .box k 0 → a.tmps[j]?.getD undef = .pointer (some ⟨x.ρ k, 0, none⟩) := fun j k h => by
    have := hp j k h
    simpa [Act.eval] using this
  have hsz := S.sz
  have hdf : a.defers = [] := S.df
  refine wp_seq (wp_region ?_)
  refine wpOps_val (v := .func (.func 53) #[] #[.pointer (some ⟨x.ρ (base + 3), 0, none⟩), .pointer (some ⟨x.ρ (base + 1), 0, none⟩)]) (w' := w) rfl rfl ?_ ?_
  · have hmf : ∀ (fn : Fn) (first cap : Array Value) (w : World), (Instr.makeFunc fn first cap).run Tryz.prog w = .ok (.func fn first cap) w := fun _ _ _ _ => rfl
    simp [execOp, go_sem, hmf, hq 8 _ rfl, hq 6 _ rfl]
  have S1 := (S.put (d := 14) (u := .undef) (v := .func (.func 53) #[] #[.pointer (some ⟨x.ρ (base + 3), 0, none⟩), .pointer (some ⟨x.ρ (base + 1), 0, none⟩)]) (by omega) trivial).trim (t' := rdT1 s f0) (b' := rdB 0 0 0 (rd s (mx F) 0 0 0 0 .empty 0) cs) (by (repeat' (first | exact rfl | exact List.forall_mem_nil _ | (refine List.forall_mem_cons.2 ⟨?_, ?_⟩)))) (by (repeat' (first | exact rfl | exact List.forall_mem_nil _ | (refine List.forall_mem_cons.2 ⟨?_, ?_⟩))))
  refine wpOps_defer (d := d1 x) (w' := w) rfl rfl ?_ ?_
  · simp [execOp, go_sem, hsz]
  refine wp_seq (wp_region ?_)
  refine wpOps_defer (d := d2 x) (w' := w) rfl rfl ?_ ?_
  · simp [execOp, go_sem, hq 7 _ rfl]
  letI : Ds := ⟨[d2 x, d1 x], true⟩
  show rdRest.wp Tryz.prog _ _ w
  refine wp_mono (run_ok hm hI hX (nt := 37) (by decide) (by kernel_rfl) (fun _ => by kernel_rfl) (Sim.newDs S1 rfl (by show d2 x :: d1 x :: a.defers = _; rw [hdf]; rfl)) hr) ?_
  rintro en a' w' ⟨ex, σ, ⟨h6, h7, z, e', q', k, ka, kb, y, d, hb, hx⟩, x', g1, g2, g3, g4, g5⟩
  have S4 := (g5 (.inr rfl)).trim (t' := [(6, .box (base + 1) 0), (7, .box (base + 2) 0)]) (b' := rdB z e' q' (rd s (mx F) T k ka kb y d) cs') (List.forall_mem_cons.2 ⟨h6, List.forall_mem_cons.2 ⟨h7, List.forall_mem_nil _⟩⟩) hb
  have hρ : ∀ i, base ≤ i → x.ρ i = x'.ρ i := fun i hi => (g2.rho i hi).symm
  have g3' : a'.defers = [d2 x, d1 x] := g3
  have idle : e' = e → q' = q → Leaves Tryz.prog Tryz.f27 a'.tmps R a'.defers .returning w' := by
    rintro rfl rfl
    rw [g3']
    exact read_leaveI hm hI hX (hE0.trans g2) rfl rfl S4 hρ fun x' w' rv h1 h2 h3 => hR x' w' rv _ _ _ _ _ h1 h2 h3
  cases ex with
  | normal => obtain rfl := g1; exact idle hx.1 hx.2
  | ret => obtain rfl := g1; exact idle hx.1 hx.2
  | exit i => exact hx.elim
  | pan v =>
    obtain ⟨rv, rfl, hrv⟩ := g1
    have hx' : v = stopV e q := hx
    subst hx'
    obtain ⟨u, rfl, l, rfl, hl⟩ := hrv
    obtain ⟨v1, l1, hl1, r1, v2, l2, hl2, r2, r3⟩ := hl
    have h3 : l2 = [] := r3
    subst h3
    have e1 : v1 = .int .i64 e := by cases r1; rfl
    have e2 : v2 = .int .i64 q := by cases r2; rfl
    subst e1 e2 hl2
    have : l = #[.int .i64 e, .int .i64 q] := by cases l; simp_all
    subst this
    show Leaves _ _ _ _ a'.defers _ _
    rw [g3']
    exact read_leaveP hm hI hX (hE0.trans g2) rfl rfl S4 hρ fun x' w' rv h1 h2 h3 => hR x' w' rv _ _ _ _ _ h1 h2 h3
theorem read_ok (hm : Tryz.prog.follows .mixedOrders = true) (hI : Stable I B0) (hX : GivenOK Tryz.prog X I B0) {s : ByteArray} {F : Int} {f0 : V} {cs cs' : List V} {T e q : Int} (hr : ReadRun X s F f0 cs T e q cs') :
    CallOK Tryz.prog I B0 27 [vS s, vI F, f0] [cs] (.ret (.tuple [vI T, .agg [cZ e, cZ q]]) [cs']) := by
  intro M x w vs hargs S
  have S0 : Sim I B0 M 37 x [(0, vS s), (1, vI F), (2, f0)] [(base, cs)] _ w := sim0 (nt := 37) hargs (by simp) S
  refine calls_of_wp_defers Tryz.func27 rfl ?_
  show rdc.wp _ _ _ _
  refine wp_seq (wp_mono (run_ok hm hI hX (nt := 37) (by decide) (by kernel_rfl) (fun h => by cases h) S0 hr.r0) ?_)
  rintro en a1 w1 ⟨ex, σ, ⟨hex, h1, h2⟩, hb⟩
  have hex' : ex = .normal := hex
  subst hex'
  obtain ⟨rfl, x1, hE1, S1⟩ := hb.normal
  refine wp_seq (wp_mono (run_ok hm hI hX (nt := 37) (by decide) (by kernel_rfl) (fun h => by cases h) (S1.trim h1 h2) hr.r1) ?_)
  rintro en a2 w2 ⟨ex, σ, ⟨hex, h1, h2⟩, hb⟩
  have hex' : ex = .normal := hex
  subst hex'
  obtain ⟨rfl, x2, hE2, S2⟩ := hb.normal
  have S2 := S2.trim h1 h2
  have hnd : rdI.Nodup := by decide
  obtain ⟨Sw, hren⟩ := callee_in S2.ws hnd hr.hin
  have S3 : Sim I B0 (calleeMay x2 (rdB0 (rd s (mx F) 0 0 0 0 .empty 0) cs) rdI w2) 37 (calleeAux x2 (rdB0 (rd s (mx F) 0 0 0 0 .empty 0) cs) rdI) (rdT1 s f0) (rdB 0 0 0 (rd s (mx F) 0 0 0 0 .empty 0) cs) a2 w2 := by
    refine ⟨fun i => ?_, S2.sz, S2.df, Sw⟩
    have ht := S2.tm i
    match i with
    | 0 => exact ht
    | 1 => trivial
    | 2 =>
      have h3 := hren _ _ ht.toN
      rw [show getT (rdT0 s f0) 2 = f0 from rfl, hr.hf] at h3
      exact h3.toV hr.hf'
    | 3 | 4 | 5 => trivial
    | 6 => exact (hren _ _ ht)
    | 7 => exact (hren _ _ ht)
    | 8 => exact (hren _ _ ht)
    | n + 9 => trivial
  refine read_rest hm hI hX (Ext.refl _ _) S3 hr.run ?_
  intro x' w' rv k a b y d hE hrv S'
  obtain ⟨wr, ho, hg⟩ := hr.hout k a b y d
  have hO := callee_out S2.ws hI hnd hr.hin hE (bx' := rdL T e q (rd s (mx F) T k a b y d) cs') S' ho (u := .tuple [vI T, .agg [cZ e, cZ q]]) rfl hrv
  have hws := hO.ws (cleanB _ _ (rdB0 (rd s (mx F) 0 0 0 0 .empty 0) cs)) (fun i => getB_clean _ _ _ _)
  refine ⟨_, (hE1.trans hE2).trans hO.ext, rv, rfl, hO.rv, hws.weak fun i c hi => ?_⟩
  simp only [number, getB] at hi
  split at hi
  · rename_i e9; rw [← Nat.eq_of_beq_eq_true e9]; cases hi; exact ⟨_, hg _, fun _ h => h⟩
  · cases hi
theorem readX_ok (hm : Tryz.prog.follows .mixedOrders = true) (hI : Stable I B0) (hX : GivenOK Tryz.prog X I B0) : GivenOK Tryz.prog (ReadX X) I B0 := by
  rintro f args bx o ⟨rfl, s, F, f0, cs, cs', T, e, q, rfl, rfl, rfl, hr⟩
  exact ⟨⟨_, Tryz.func27, by kernel_rfl, rfl⟩, read_ok hm hI hX hr⟩
end
end Go.Proofs.YtacfbgfphkfobaaGreatDoor.Id
/-! ## PaTop -/
namespace Go.Proofs.YtacfbgfphkfobaaGreatDoor.Id
open Go
set_option linter.unusedVariables false
set_option linter.unusedSimpArgs false
variable {X : Given}
/-- what a reading hands back -/
def RdOut {α : Type} (E : Env) (vo : α → List V) (er : List V → Prop) (res : Rs α) (T e q : Int) (cs' : List V) : Prop :=
  match res with
  | .ok x l => T + 1 = E.N ∧ e = 0 ∧ q = 0 ∧ cs' = vo x
  | .more => T = E.N ∧ e = E.f.1 ∧ q = E.f.2 ∧ er cs'
  | .err c l => ∃ t r, l = t :: r ∧ T + l.length = E.N ∧ e = (c : Nat) ∧ q = t.a ∧ er cs'
  | .out => False
def runL {α : Type} (p : Gr α) : List Tk → Rs α
  | [] => .more
  | t :: r => runG p (t :: r)
abbrev erM (cs : List V) : Prop := cs = m0V ∨ ∃ m, cs = mcA base m
theorem rest_mod (hX : LibX X) (E : Env) {n : Nat} (hn : n ≤ 100000000) {l : List Tk} (hc : Chain E.s 0 E.F l E.f) (hN : l.length = E.N) (hne : runL (pEnd (pModule n)) l ≠ .out) :
    WP X (evCode tt none rdRest (rdT1 E.s modF) (rdB 0 0 0 (rd E.s E.F 0 0 0 0 .empty 0) m0V)) fun p => ∃ T e q cs', RdOut E (mcA base) erM (runL (pEnd (pModule n)) l) T e q cs' ∧ RdEnd E.s E.F T e q cs' p := by
  have hs := E.hs
  refine WP.iteF (decide_eq_false (by omega)) ?_
  refine WP.use (r_look hX E 0 0 l (by omega) (by omega) (by simpa using hN) (by simpa using hc) 0 0 0 .empty 0) fun o ho => ?_
  cases l with
  | nil =>
    obtain ⟨k, a, b, y, d, rfl⟩ := ho
    refine WP.leaf ⟨E.N, E.f.1, E.f.2, m0V, ⟨rfl, rfl, rfl, .inl rfl⟩, rfl, rfl, 0, 0, 0, k, a, b, y, d, ?_, rfl⟩
    (repeat' (first | exact rfl | exact List.forall_mem_nil _ | (refine List.forall_mem_cons.2 ⟨?_, ?_⟩)))
  | cons t r =>
    obtain ⟨T, t', r', hl, hA, rfl⟩ := ho
    obtain ⟨rfl, rfl⟩ := List.cons.inj hl
    refine WP.use (r_modfn hX hn E T t r hA fun h => hne ?_) fun o ho => ?_
    · show runG (pEnd (pModule n)) (t :: r) = _
      unfold pEnd
      rw [runG_bind, h]; rfl
    have hne' : runG (pEnd (pModule n)) (t :: r) ≠ .out := hne
    show WP X _ fun p => ∃ T e q cs', RdOut E (mcA base) erM (runG (pEnd (pModule n)) (t :: r)) T e q cs' ∧ RdEnd E.s E.F T e q cs' p
    unfold pEnd at hne' ⊢
    rw [runG_bind] at hne' ⊢
    cases hr : runG (pModule n) (t :: r) with
    | ok m l =>
      rw [hr] at ho
      obtain ⟨T, t, r, rfl, hA, rfl⟩ := ho
      show WP X _ fun p => ∃ T' e q cs', RdOut E (mcA base) erM (runG (match decide (t.k = 0) with | true => Gr.ret m | false => Gr.err 140) (t :: r)) T' e q cs' ∧ RdEnd E.s E.F T' e q cs' p
      by_cases hk : t.k = 0
      · refine WP.iteF (by simp [hk]) ?_
        refine WP.leaf ⟨T, 0, 0, mcA base m, ?_, rfl, rfl, T, 0, 0, t.k, t.a, ((t.a + t.s.size : Nat) : Int), t.s, 0, ?_, rfl, rfl⟩
        · rw [decide_eq_true hk]; exact ⟨by have := hA.n; rw [hA.z hk] at this; exact_mod_cast this, rfl, rfl, rfl⟩
        · (repeat' (first | exact rfl | exact List.forall_mem_nil _ | (refine List.forall_mem_cons.2 ⟨?_, ?_⟩)))
      · refine WP.iteT (by simp [hk]) ?_
        refine WP.use1 (r_fail _ _ _ _ _ _ _ _ _) ?_
        refine WP.leaf ⟨T, 140, t.a, mcA base m, ?_, rfl, rfl, 0, 0, 0, t.k, t.a, ((t.a + t.s.size : Nat) : Int), t.s, 0, ?_, rfl⟩
        · rw [decide_eq_false hk]; exact ⟨t, r, rfl, by have := hA.n; exact_mod_cast this, rfl, rfl, .inr ⟨m, rfl⟩⟩
        · (repeat' (first | exact rfl | exact List.forall_mem_nil _ | (refine List.forall_mem_cons.2 ⟨?_, ?_⟩)))
    | more =>
      rw [hr] at ho
      obtain ⟨k, a, b, y, d, m, -, rfl⟩ := ho
      refine WP.leaf ⟨E.N, E.f.1, E.f.2, mcA base m, ⟨rfl, rfl, rfl, .inr ⟨m, rfl⟩⟩, rfl, rfl, 0, 0, 0, k, a, b, y, d, ?_, rfl⟩
      (repeat' (first | exact rfl | exact List.forall_mem_nil _ | (refine List.forall_mem_cons.2 ⟨?_, ?_⟩)))
    | err e l =>
      rw [hr] at ho
      obtain ⟨t, r, T, k, a, b, y, d, rfl, hN, m, -, rfl⟩ := ho
      refine WP.leaf ⟨T, (e : Nat), t.a, mcA base m, ⟨t, r, rfl, by exact_mod_cast hN, rfl, rfl, .inr ⟨m, rfl⟩⟩, rfl, rfl, 0, 0, 0, k, a, b, y, d, ?_, rfl⟩
      (repeat' (first | exact rfl | exact List.forall_mem_nil _ | (refine List.forall_mem_cons.2 ⟨?_, ?_⟩)))
    | out => rw [hr] at hne'; exact absurd rfl hne'
abbrev erE (cs : List V) : Prop := cs = e0V ∨ ∃ e, cs = eV e
theorem rest_expr (hX : LibX X) (E : Env) {n : Nat} (hn : n ≤ 100000000) {l : List Tk} (hc : Chain E.s 0 E.F l E.f) (hN : l.length = E.N) (hne : runL (pEnd (pLine n 0 0)) l ≠ .out) :
    WP X (evCode tt none rdRest (rdT1 E.s exprF) (rdB 0 0 0 (rd E.s E.F 0 0 0 0 .empty 0) e0V)) fun p => ∃ T e q cs', RdOut E eV erE (runL (pEnd (pLine n 0 0)) l) T e q cs' ∧ RdEnd E.s E.F T e q cs' p := by
  have hs := E.hs
  refine WP.iteF (decide_eq_false (by omega)) ?_
  refine WP.use (r_look hX E 0 0 l (by omega) (by omega) (by simpa using hN) (by simpa using hc) 0 0 0 .empty 0) fun o ho => ?_
  cases l with
  | nil =>
    obtain ⟨k, a, b, y, d, rfl⟩ := ho
    refine WP.leaf ⟨E.N, E.f.1, E.f.2, e0V, ⟨rfl, rfl, rfl, .inl rfl⟩, rfl, rfl, 0, 0, 0, k, a, b, y, d, ?_, rfl⟩
    (repeat' (first | exact rfl | exact List.forall_mem_nil _ | (refine List.forall_mem_cons.2 ⟨?_, ?_⟩)))
  | cons t r =>
    obtain ⟨T, t', r', hl, hA, rfl⟩ := ho
    obtain ⟨rfl, rfl⟩ := List.cons.inj hl
    refine WP.use (r_exprfn hX hn E T t r hA fun h => hne ?_) fun o ho => ?_
    · show runG (pEnd (pLine n 0 0)) (t :: r) = _
      unfold pEnd
      rw [runG_bind, h]; rfl
    have hne' : runG (pEnd (pLine n 0 0)) (t :: r) ≠ .out := hne
    show WP X _ fun p => ∃ T e q cs', RdOut E eV erE (runG (pEnd (pLine n 0 0)) (t :: r)) T e q cs' ∧ RdEnd E.s E.F T e q cs' p
    unfold pEnd at hne' ⊢
    rw [runG_bind] at hne' ⊢
    cases hr : runG (pLine n 0 0) (t :: r) with
    | ok m l =>
      rw [hr] at ho
      obtain ⟨T, t, r, rfl, hA, rfl⟩ := ho
      show WP X _ fun p => ∃ T' e q cs', RdOut E eV erE (runG (match decide (t.k = 0) with | true => Gr.ret m | false => Gr.err 140) (t :: r)) T' e q cs' ∧ RdEnd E.s E.F T' e q cs' p
      by_cases hk : t.k = 0
      · refine WP.iteF (by simp [hk]) ?_
        refine WP.leaf ⟨T, 0, 0, eV m, ?_, rfl, rfl, T, 0, 0, t.k, t.a, ((t.a + t.s.size : Nat) : Int), t.s, 0, ?_, rfl, rfl⟩
        · rw [decide_eq_true hk]; exact ⟨by have := hA.n; rw [hA.z hk] at this; exact_mod_cast this, rfl, rfl, rfl⟩
        · (repeat' (first | exact rfl | exact List.forall_mem_nil _ | (refine List.forall_mem_cons.2 ⟨?_, ?_⟩)))
      · refine WP.iteT (by simp [hk]) ?_
        refine WP.use1 (r_fail _ _ _ _ _ _ _ _ _) ?_
        refine WP.leaf ⟨T, 140, t.a, eV m, ?_, rfl, rfl, 0, 0, 0, t.k, t.a, ((t.a + t.s.size : Nat) : Int), t.s, 0, ?_, rfl⟩
        · rw [decide_eq_false hk]; exact ⟨t, r, rfl, by have := hA.n; exact_mod_cast this, rfl, rfl, .inr ⟨m, rfl⟩⟩
        · (repeat' (first | exact rfl | exact List.forall_mem_nil _ | (refine List.forall_mem_cons.2 ⟨?_, ?_⟩)))
    | more =>
      rw [hr] at ho
      obtain ⟨k, a, b, y, d, m, rfl, rfl⟩ := ho
      refine WP.leaf ⟨E.N, E.f.1, E.f.2, e0V, ⟨rfl, rfl, rfl, .inl rfl⟩, rfl, rfl, 0, 0, 0, k, a, b, y, d, ?_, rfl⟩
      (repeat' (first | exact rfl | exact List.forall_mem_nil _ | (refine List.forall_mem_cons.2 ⟨?_, ?_⟩)))
    | err e l =>
      rw [hr] at ho
      obtain ⟨t, r, T, k, a, b, y, d, rfl, hN, m, rfl, rfl⟩ := ho
      refine WP.leaf ⟨T, (e : Nat), t.a, e0V, ⟨t, r, rfl, by exact_mod_cast hN, rfl, rfl, .inl rfl⟩, rfl, rfl, 0, 0, 0, k, a, b, y, d, ?_, rfl⟩
      (repeat' (first | exact rfl | exact List.forall_mem_nil _ | (refine List.forall_mem_cons.2 ⟨?_, ?_⟩)))
    | out => rw [hr] at hne'; exact absurd rfl hne'
/-- so much fuel, cut to a whole number -/
theorem mx_nat (F : Int) : mx F = (F.toNat : Int) := by unfold mx; split <;> omega
theorem big_mod {s : ByteArray} {F : Int} (h : 65536 < s.size) : ReadRun X s F modF m0V 0 3 0 m0V where
  r0 := WP.leaf ⟨rfl, by simp [getT], by (repeat' (first | exact rfl | exact List.forall_mem_nil _ | (refine List.forall_mem_cons.2 ⟨?_, ?_⟩)))⟩
  r1 := WP.leaf ⟨rfl, by simp [getT], by (repeat' (first | exact rfl | exact List.forall_mem_nil _ | (refine List.forall_mem_cons.2 ⟨?_, ?_⟩)))⟩
  hf := by kernel_rfl
  hf' := by intro t n es h; cases h
  hin := rfl
  hout := fun k a b y d => ⟨_, rfl, fun b => rfl⟩
  run := by
    refine WP.iteT (decide_eq_true (by omega)) ?_
    refine WP.leaf ⟨rfl, rfl, 0, 3, 0, 0, 0, 0, .empty, 0, ?_, rfl, rfl⟩
    (repeat' (first | exact rfl | exact List.forall_mem_nil _ | (refine List.forall_mem_cons.2 ⟨?_, ?_⟩)))
theorem big_expr {s : ByteArray} {F : Int} (h : 65536 < s.size) : ReadRun X s F exprF e0V 0 3 0 e0V where
  r0 := WP.leaf ⟨rfl, by simp [getT], by (repeat' (first | exact rfl | exact List.forall_mem_nil _ | (refine List.forall_mem_cons.2 ⟨?_, ?_⟩)))⟩
  r1 := WP.leaf ⟨rfl, by simp [getT], by (repeat' (first | exact rfl | exact List.forall_mem_nil _ | (refine List.forall_mem_cons.2 ⟨?_, ?_⟩)))⟩
  hf := by kernel_rfl
  hf' := by intro t n es h; cases h
  hin := rfl
  hout := fun k a b y d => ⟨_, rfl, fun b => rfl⟩
  run := by
    refine WP.iteT (decide_eq_true (by omega)) ?_
    refine WP.leaf ⟨rfl, rfl, 0, 3, 0, 0, 0, 0, .empty, 0, ?_, rfl, rfl⟩
    (repeat' (first | exact rfl | exact List.forall_mem_nil _ | (refine List.forall_mem_cons.2 ⟨?_, ?_⟩)))
theorem read_mod (hX : LibX X) (E : Env) {F : Int} (hF : mx F = E.F) {n : Nat} (hn : n ≤ 100000000) {l : List Tk} (hc : Chain E.s 0 E.F l E.f) (hN : l.length = E.N) (hne : runL (pEnd (pModule n)) l ≠ .out) :
    ∃ T e q cs', RdOut E (mcA base) erM (runL (pEnd (pModule n)) l) T e q cs' ∧ ReadRun X E.s F modF m0V T e q cs' := by
  obtain ⟨p, ⟨T, e, q, cs', h1, h2⟩, h3⟩ := rest_mod hX E hn hc hN hne
  have hcs : cs' = m0V ∨ ∃ m, cs' = mcA base m := by
    unfold RdOut at h1
    split at h1
    · exact .inr ⟨_, h1.2.2.2⟩
    · exact h1.2.2.2
    · obtain ⟨t, r, _, _, _, _, h⟩ := h1; exact h
    · exact h1.elim
  refine ⟨T, e, q, cs', h1, WP.leaf ⟨rfl, by simp [getT], by (repeat' (first | exact rfl | exact List.forall_mem_nil _ | (refine List.forall_mem_cons.2 ⟨?_, ?_⟩)))⟩, WP.leaf ⟨rfl, by simp [getT], by (repeat' (first | exact rfl | exact List.forall_mem_nil _ | (refine List.forall_mem_cons.2 ⟨?_, ?_⟩)))⟩, by kernel_rfl, (by intro t n es h; cases h), rfl, ?_, ?_⟩
  · intro k a b y d
    rcases hcs with rfl | ⟨m, rfl⟩ <;> exact ⟨_, rfl, fun b => rfl⟩
  · rw [hF]; exact ⟨p, h2, h3⟩
theorem read_expr (hX : LibX X) (E : Env) {F : Int} (hF : mx F = E.F) {n : Nat} (hn : n ≤ 100000000) {l : List Tk} (hc : Chain E.s 0 E.F l E.f) (hN : l.length = E.N) (hne : runL (pEnd (pLine n 0 0)) l ≠ .out) :
    ∃ T e q cs', RdOut E eV erE (runL (pEnd (pLine n 0 0)) l) T e q cs' ∧ ReadRun X E.s F exprF e0V T e q cs' := by
  obtain ⟨p, ⟨T, e, q, cs', h1, h2⟩, h3⟩ := rest_expr hX E hn hc hN hne
  have hcs : cs' = e0V ∨ ∃ m, cs' = eV m := by
    unfold RdOut at h1
    split at h1
    · exact .inr ⟨_, h1.2.2.2⟩
    · exact h1.2.2.2
    · obtain ⟨t, r, _, _, _, _, h⟩ := h1; exact h
    · exact h1.elim
  refine ⟨T, e, q, cs', h1, WP.leaf ⟨rfl, by simp [getT], by (repeat' (first | exact rfl | exact List.forall_mem_nil _ | (refine List.forall_mem_cons.2 ⟨?_, ?_⟩)))⟩, WP.leaf ⟨rfl, by simp [getT], by (repeat' (first | exact rfl | exact List.forall_mem_nil _ | (refine List.forall_mem_cons.2 ⟨?_, ?_⟩)))⟩, by kernel_rfl, (by intro t n es h; cases h), rfl, ?_, ?_⟩
  · intro k a b y d
    rcases hcs with rfl | ⟨m, rfl⟩ <;> exact ⟨_, rfl, fun b => rfl⟩
  · rw [hF]; exact ⟨p, h2, h3⟩
end Go.Proofs.YtacfbgfphkfobaaGreatDoor.Id
/-! ## PaTopB -/
namespace Go.Proofs.YtacfbgfphkfobaaGreatDoor.Id
open Go
set_option linter.unusedVariables false
set_option linter.unusedSimpArgs false
def OrX (X : Given) : Given := fun f a b o => X f a b o ∨ ReadX X f a b o
theorem orX_ok {I : World → Prop} {B0 : Nat} {X : Given} (hm : Tryz.prog.follows .mixedOrders = true) (hI : Stable I B0) (hX : GivenOK Tryz.prog X I B0) : GivenOK Tryz.prog (OrX X) I B0 :=
  fun f a b o h => h.elim (hX f a b o) (readX_ok hm hI hX f a b o)
theorem OrX.lib {X : Given} (h : LibX X) : LibX (OrX X) := ⟨fun s c r h1 h2 h3 h4 => .inl (h.wh s c r h1 h2 h3 h4), fun s c => .inl (h.ib s c)⟩
theorem read_does {X : Given} {s : ByteArray} {F : Int} {f0 : V} {cs cs' : List V} {T e q : Int} (h : ReadRun X s F f0 cs T e q cs') : Does (OrX X) 27 [vS s, vI F, f0] [cs] (.ret (.tuple [vI T, .agg [cZ e, cZ q]]) [cs']) :=
  Does.ext (.inr ⟨rfl, s, F, f0, cs, cs', T, e, q, rfl, rfl, rfl, h⟩)
abbrev mD (m : TMod) : List D := [.sl 3 (isD' m.is), .sl 13 (csD m.cs), .sl 6 (fsD m.fs)]
abbrev e0D : List D := [cZ 0, cZ 0, .str .empty, .str .empty, cZ 0, cZ 0, .bool false, .str .empty, cZ 0, .sl 10 []]
theorem t_mod_ok {X : Given} {s : ByteArray} {F T : Int} {m : TMod} (h : ReadRun X s F modF m0V T 0 0 (mcA base m)) : Does (OrX X) 11 [vS s, vI F] [] (.ret (.tuple [.agg (mD m), .agg [cZ 0, cZ 0]]) []) := by
  refine DoesQ.eq (DoesQ.of Tryz.func11 (by kernel_rfl) ?_)
  refine WP.use1 (read_does h) ?_
  refine WP.iteF (by simp) ?_
  refine WP.asrt (by kernel_rfl) ?_
  refine WP.asrt (by kernel_rfl) ?_
  exact WP.leaf rfl
theorem t_mod_err {X : Given} {s : ByteArray} {F T e q : Int} {cs' : List V} (h : ReadRun X s F modF m0V T e q cs') (hc : cs' = m0V ∨ ∃ m, cs' = mcA base m) (he : e ≠ 0 ∨ q ≠ 0) : Does (OrX X) 11 [vS s, vI F] [] (.ret (.tuple [.agg [.sl 3 [], .sl 13 [], .sl 6 []], .agg [cZ e, cZ q]]) []) := by
  refine DoesQ.eq (DoesQ.of Tryz.func11 (by kernel_rfl) ?_)
  refine WP.use1 (read_does h) ?_
  rcases hc with rfl | ⟨m, rfl⟩
  · refine WP.iteT (by simp; omega) ?_
    refine WP.asrt (by kernel_rfl) ?_
    refine WP.asrt (by kernel_rfl) ?_
    exact WP.leaf rfl
  · refine WP.iteT (by simp; omega) ?_
    refine WP.asrt (by kernel_rfl) ?_
    refine WP.asrt (by kernel_rfl) ?_
    exact WP.leaf rfl
theorem t_expr_ok {X : Given} {s : ByteArray} {F T : Int} {m : TExpr} (h : ReadRun X s F exprF e0V T 0 0 (eV m)) : Does (OrX X) 16 [vS s, vI F] [] (.ret (.tuple [.agg (eD m), .agg [cZ 0, cZ 0]]) []) := by
  refine DoesQ.eq (DoesQ.of Tryz.func16 (by kernel_rfl) ?_)
  refine WP.use1 (read_does h) ?_
  refine WP.iteF (by simp) ?_
  refine WP.asrt (by kernel_rfl) ?_
  refine WP.asrt (by kernel_rfl) ?_
  exact WP.leaf rfl
theorem t_expr_err {X : Given} {s : ByteArray} {F T e q : Int} {cs' : List V} (h : ReadRun X s F exprF e0V T e q cs') (hc : cs' = e0V ∨ ∃ m, cs' = eV m) (he : e ≠ 0 ∨ q ≠ 0) : Does (OrX X) 16 [vS s, vI F] [] (.ret (.tuple [.agg e0D, .agg [cZ e, cZ q]]) []) := by
  refine DoesQ.eq (DoesQ.of Tryz.func16 (by kernel_rfl) ?_)
  refine WP.use1 (read_does h) ?_
  rcases hc with rfl | ⟨m, rfl⟩
  · refine WP.iteT (by simp; omega) ?_
    refine WP.asrt (by kernel_rfl) ?_
    refine WP.asrt (by kernel_rfl) ?_
    exact WP.leaf rfl
  · refine WP.iteT (by simp; omega) ?_
    refine WP.asrt (by kernel_rfl) ?_
    refine WP.asrt (by kernel_rfl) ?_
    exact WP.leaf rfl
end Go.Proofs.YtacfbgfphkfobaaGreatDoor.Id
/-! ## PaFed -/
namespace Go.Proofs.YtacfbgfphkfobaaGreatDoor.Id
open Go
set_option linter.unusedVariables false
/-- on so many tokens: not out of fuel; and so many are taken -/
def Fed {α : Type} (p : Gr α) (m c : Nat) : Prop := ∀ l, l ≠ [] → l.length ≤ m → match runG p l with
  | .out => False
  | .ok _ l' => l' ≠ [] ∧ l'.length + c ≤ l.length
  | _ => True
section
variable {α β : Type} {m c : Nat}
theorem Fed.pos {p : Gr α} (h : 1 ≤ m → Fed p m c) : Fed p m c := fun l h0 hl => h (by cases l with | nil => exact absurd rfl h0 | cons => simp at hl; omega) l h0 hl
theorem Fed.ret (x : α) : Fed (.ret x) m 0 := fun l h0 _ => ⟨h0, Nat.le_refl _⟩
theorem Fed.err (e : Nat) : Fed (.err e : Gr α) m c := fun _ _ _ => trivial
theorem Fed.look {f : Tk → Gr α} (h : ∀ t, Fed (f t) m c) : Fed (.look f) m c := fun l h0 hl => by
  cases l with
  | nil => exact absurd rfl h0
  | cons t r => exact h t (t :: r) h0 hl
theorem Fed.next {g : Gr α} (h : 2 ≤ m → Fed g (m - 1) c) : Fed (.next g) m (c + 1) := fun l h0 hl => by
  match l with
  | [] => exact absurd rfl h0
  | [t] => exact trivial
  | t :: u :: r =>
    have := h (by simp at hl; omega) (u :: r) (by simp) (by simp at hl ⊢; omega)
    show match runG g (u :: r) with | .out => False | .ok _ l' => l' ≠ [] ∧ l'.length + (c + 1) ≤ (t :: u :: r).length | _ => True
    revert this
    cases runG g (u :: r) <;> simp
    intro h1 h2; exact ⟨h1, by omega⟩
theorem Fed.mono {p : Gr α} {c' : Nat} (h : Fed p m c) (hc : c' ≤ c) : Fed p m c' := fun l h0 hl => by
  have := h l h0 hl
  revert this
  cases runG p l <;> simp
  intro h1 h2; exact ⟨h1, by omega⟩
theorem Fed.bind {p : Gr α} {f : α → Gr β} {c' : Nat} (h : Fed p m c) (k : 1 + c ≤ m → ∀ x, Fed (f x) (m - c) c') : Fed (p.bind f) m (c + c') := fun l h0 hl => by
  have h1 := h l h0 hl
  rw [runG_bind]
  revert h1
  cases runG p l with
  | out => exact fun h => h
  | more => exact fun _ => trivial
  | err e r => exact fun _ => trivial
  | ok x r =>
    rintro ⟨h2, h3⟩
    have hr : 1 ≤ r.length := by cases r with | nil => exact absurd rfl h2 | cons => simp
    have := k (by omega) x r h2 (by omega)
    show match runG (f x) r with | .out => False | .ok _ l' => l' ≠ [] ∧ l'.length + (c + c') ≤ l.length | _ => True
    revert this
    cases runG (f x) r <;> simp
    intro h1 h2; exact ⟨h1, by omega⟩
theorem Fed.bind0 {p : Gr α} {f : α → Gr β} {c' : Nat} (h : Fed p m 0) (k : ∀ x, Fed (f x) m c') : Fed (p.bind f) m c' := by
  have := Fed.bind h (f := f) (c' := c') fun _ x => k x
  rwa [Nat.zero_add] at this
theorem Fed.bind1 {p : Gr α} {f : α → Gr β} {c' : Nat} (h : Fed p m 1) (k : 2 ≤ m → ∀ x, Fed (f x) (m - 1) c') : Fed (p.bind f) m 1 :=
  (Fed.bind h k).mono (by omega)
theorem Fed.next0 {g : Gr α} (h : 2 ≤ m → Fed g (m - 1) 0) : Fed (.next g) m 1 := Fed.next h
theorem Fed.nextc {g : Gr α} {c : Nat} (h : 2 ≤ m → Fed g (m - 1) c) : Fed (.next g) m 1 := (Fed.next h).mono (by omega)
theorem Fed.bool {b : Bool} {p q : Gr α} (h1 : Fed p m c) (h2 : Fed q m c) : Fed (match b with | true => p | false => q) m c := by cases b <;> assumption
theorem Fed.bool' {b : Bool} {p q : Gr α} (h1 : Fed p m c) (h2 : Fed q m c) : Fed (match b with | false => q | true => p) m c := by cases b <;> assumption
theorem fed_must (x : ByteArray) : Fed (gMust x) m 1 := .look fun t => .bool (.next0 fun _ => .ret _) (.err _)
theorem fed_of (k : Nat) : Fed (gOf k) m 1 := .look fun t => .bool (.next0 fun _ => .ret _) (.err _)
theorem fed_open (x : ByteArray) (d : Nat) : Fed (gOpen x d) m 1 := .look fun t => .bool (.bool (.err _) (.next0 fun _ => .ret _)) (.err _)
theorem fed_is (x : ByteArray) : Fed (gIs x) m 0 := .look fun t => .ret _
theorem fed_sep (n : Nat) : Fed (gSep n) m 0 := .bool ((Fed.bind1 (fed_must _) fun _ _ => .ret _).mono (by omega)) (.ret _)
theorem fed_type : Fed pType m 1 := .look fun t => .bool (.next0 fun _ => .ret _) (.err _)
end
def FedE (n m : Nat) : Prop := (∀ k d, k ≤ 5 → 16 * m + 8 ≤ n + k → Fed (pLine n k d) m 1) ∧ (∀ k d e, k < 5 → 16 * m + 1 ≤ n → Fed (pTail n k d e) m 0) ∧ (∀ d, 16 * m + 2 ≤ n → Fed (pUnary n d) m 1) ∧ (∀ d, 16 * m + 1 ≤ n → Fed (pPrim n d) m 1) ∧
  (∀ d a of nm, 16 * m + 2 ≤ n → Fed (pName n d a of nm) m 0) ∧ (∀ d, 16 * m + 1 ≤ n → Fed (pArgs n d) m 1) ∧ (∀ d l, 16 * m + 9 ≤ n → Fed (pArgl n d l) m 1)
theorem fedE : ∀ n m, FedE n m
  | 0, m => ⟨fun _ _ _ _ => by omega, fun _ _ _ _ _ => by omega, fun _ _ => by omega, fun _ _ => by omega, fun _ _ _ _ _ => by omega, fun _ _ => by omega, fun _ _ _ => by omega⟩
  | n + 1, m => by
    have ih := fedE n
    refine ⟨fun k d hk hn => ?_, fun k d e hk hn => ?_, fun d hn => ?_, fun d hn => ?_, fun d a of nm hn => ?_, fun d hn => ?_, fun d l hn => ?_⟩
    · rw [pLine]
      by_cases h5 : k = 5
      · rw [decide_eq_true h5]; exact (ih m).2.2.1 d (by omega)
      · rw [decide_eq_false h5]
        exact .bind1 ((ih m).1 (k + 1) d (by omega) (by omega)) fun h2 e => (ih (m - 1)).2.1 k d e (by omega) (by omega)
    · rw [pTail]
      refine .look fun t => .bool (Fed.mono (.nextc fun h2 => .bind1 ((ih (m - 1)).1 (k + 1) d (by omega) (by omega)) fun h3 e2 => .bool (.ret _) ((ih (m - 1 - 1)).2.1 k d _ hk (by omega))) (by omega)) (.ret _)
    · rw [pUnary]
      exact .look fun t => .bool (.bool (.err _) (.nextc fun h2 => .bind1 ((ih (m - 1)).2.2.1 _ (by omega)) fun _ e => .ret _)) ((ih m).2.2.2.1 d (by omega))
    · rw [pPrim]
      refine .look fun t => .bool (.next0 fun _ => .ret _) (.bool (.next0 fun _ => .ret _) (.bool (.next0 fun _ => .ret _) (.bool ?_ ?_)))
      · exact .bind1 (fed_open _ _) fun h2 _ => .bind1 ((ih (m - 1)).1 0 _ (by omega) (by omega)) fun _ e => .bind1 (fed_must _) fun _ _ => .ret _
      · exact .bind1 (fed_of _) fun h2 w => .bind0 (fed_is _) fun b => .bool (Fed.mono (.nextc fun h3 => .bind1 (fed_of _) fun h4 w2 => (ih (m - 1 - 1 - 1)).2.2.2.2.1 _ _ _ _ (by omega)) (by omega)) ((ih (m - 1)).2.2.2.2.1 _ _ _ _ (by omega))
    · rw [pName]
      exact .bind0 (fed_is _) fun b => .bool (Fed.mono (.bind1 ((ih m).2.2.2.2.2.1 d (by omega)) fun _ l => .ret _) (by omega)) (.ret _)
    · rw [pArgs]
      exact .bind1 (fed_open _ _) fun h2 _ => (ih (m - 1)).2.2.2.2.2.2 _ _ (by omega)
    · rw [pArgl]
      exact .bind0 (fed_is _) fun b => .bool (.next0 fun _ => .ret _) (.bind0 (fed_sep _) fun _ => .bind1 ((ih m).1 0 d (by omega) (by omega)) fun h2 e => (ih (m - 1)).2.2.2.2.2.2 _ _ (by omega))
theorem fed_line {n k d m : Nat} (hk : k ≤ 5) (h : 16 * m + 8 ≤ n + k) : Fed (pLine n k d) m 1 := (fedE n m).1 k d hk h
theorem fed_args {n d m : Nat} (h : 16 * m + 1 ≤ n) : Fed (pArgs n d) m 1 := (fedE n m).2.2.2.2.2.1 d h
theorem fed_semi {m : Nat} (s : TStmt) : Fed (gSemi s) m 1 := .bind1 (fed_must _) fun _ _ => .ret _
theorem fed_named {n d m : Nat} (h : 16 * m + 1 ≤ n) : Fed (pNamed n d) m 1 :=
  .bind1 (fed_of _) fun h2 w => .bind0 (fed_is _) fun b => .bool (Fed.mono (.nextc fun h3 => .bind1 (fed_line (by omega) (by omega)) fun _ e => .ret _) (by omega : 0 ≤ 1))
    (.bind0 (fed_is _) fun b => .bool (Fed.mono (.nextc fun h3 => .bind1 (fed_of _) fun h4 w2 => .bind1 (fed_args (by omega)) fun _ l => .ret _) (by omega)) (Fed.mono (.bind1 (fed_args (by omega)) fun _ l => .ret _) (by omega)))
def FedS (n m : Nat) : Prop := (∀ d, 16 * m + 1 ≤ n → Fed (pBlock n d) m 1) ∧ (∀ d l, 16 * m + 3 ≤ n → Fed (pStmts n d l) m 1) ∧ (∀ d, 16 * m + 2 ≤ n → Fed (pStmt n d) m 1) ∧ (∀ d, 16 * m + 1 ≤ n → Fed (pBranch n d) m 1)
theorem fedS : ∀ n m, FedS n m
  | 0, m => ⟨fun _ _ => by omega, fun _ _ _ => by omega, fun _ _ => by omega, fun _ _ => by omega⟩
  | n + 1, m => by
    have ih := fedS n
    refine ⟨fun d hn => ?_, fun d l hn => ?_, fun d hn => ?_, fun d hn => ?_⟩
    · rw [pBlock]
      exact .bind1 (fed_open _ _) fun h2 _ => (ih (m - 1)).2.1 _ _ (by omega)
    · rw [pStmts]
      exact .bind0 (fed_is _) fun b => .bool (.next0 fun _ => .ret _) (.bind1 ((ih m).2.2.1 d (by omega)) fun h2 s => (ih (m - 1)).2.1 _ _ (by omega))
    · rw [pStmt]
      refine .look fun t => .bool ?_ (.bool ?_ (.bool ?_ (.bool ?_ (.bool ?_ ?_))))
      · exact .nextc fun h2 => .bind1 (fed_of _) fun h3 w => .bind1 (fed_must _) fun h4 _ => .bind1 (fed_line (by omega) (by omega)) fun _ e => fed_semi _
      · exact (ih m).2.2.2 d (by omega)
      · exact .nextc fun h2 => .bind1 (fed_line (by omega) (by omega)) fun h3 e => .bind1 ((ih _).1 d (by omega)) fun _ b => .ret _
      · exact .nextc fun h2 => .bind0 (fed_is _) fun b => .bool (fed_semi _) (.bind1 (fed_line (by omega) (by omega)) fun _ e => fed_semi _)
      · exact .nextc fun h2 => .bind1 (fed_line (by omega) (by omega)) fun _ e => fed_semi _
      · exact .bind1 (fed_named (by omega)) fun _ x => fed_semi _
    · rw [pBranch]
      exact .bind1 (fed_must _) fun h2 a => .bind1 (fed_line (by omega) (by omega)) fun h3 e => .bind1 ((ih _).1 d (by omega)) fun h4 b => .bind0 (fed_is _) fun b2 =>
        .bool' (Fed.mono (.nextc fun h5 => .bind0 (fed_is _) fun b3 => .bool (Fed.mono (.bind1 ((ih _).2.2.2 d (by omega)) fun _ s => .ret _) (by omega : 0 ≤ 1)) (Fed.mono (.bind1 ((ih _).1 d (by omega)) fun _ l => .ret _) (by omega))) (by omega : 0 ≤ 1)) (.ret _)
theorem fed_block {n d m : Nat} (h : 16 * m + 1 ≤ n) : Fed (pBlock n d) m 1 := (fedS n m).1 d h
theorem fed_param {m : Nat} : Fed pParam m 1 := .bind1 (fed_of _) fun _ w => .bind1 (fed_must _) fun _ _ => .bind1 fed_type fun _ t => .ret _
theorem fed_params : ∀ n m l, m + 1 ≤ n → Fed (pParams n l) m 1
  | 0, m, l, h => by omega
  | n + 1, m, l, h => by
    rw [pParams]
    exact .bind0 (fed_is _) fun b => .bool (.next0 fun _ => .ret _) (.bind0 (fed_sep _) fun _ => .bind1 fed_param fun h2 x => fed_params n _ _ (by omega))
theorem fed_func {n m : Nat} {ex : Bool} (h : 16 * m + 1 ≤ n) : Fed (pFunc n ex) m 1 :=
  .bind1 (fed_must _) fun h2 _ => .bind1 (fed_of _) fun h3 w => .bind1 (fed_open _ _) fun h4 _ => .bind1 (fed_params _ _ _ (by omega)) fun h5 ps => .bind0 (fed_is _) fun b =>
    .bool (.nextc fun h6 => .bind1 fed_type fun h7 t => .bind1 (fed_block (by omega)) fun _ b => .ret _) (.bind1 (fed_block (by omega)) fun _ b => .ret _)
theorem fed_const {n m : Nat} {ex : Bool} (h : 16 * m + 1 ≤ n) : Fed (pConst n ex) m 1 :=
  .bind1 (fed_must _) fun h2 _ => .bind1 (fed_of _) fun h3 w => .bind1 (fed_must _) fun h4 _ => .bind1 (fed_line (by omega) (by omega)) fun h5 e => .bind1 (fed_must _) fun _ _ => .ret _
theorem fed_incl {m : Nat} : Fed pIncl m 1 :=
  .bind1 (fed_must _) fun h2 _ => .bind1 (fed_of _) fun h3 w => .bind1 (fed_must _) fun h4 _ => .bind1 (fed_of _) fun h5 e => .bind1 (fed_must _) fun _ _ => .ret _
theorem fed_incls : ∀ n m l, m + 1 ≤ n → Fed (pIncls n l) m 0
  | 0, m, l, h => by omega
  | n + 1, m, l, h => by
    rw [pIncls]
    exact .bind0 (fed_is _) fun b => .bool (Fed.mono (.bind1 fed_incl fun h2 x => fed_incls n _ _ (by omega)) (by omega)) (.ret _)
theorem fed_decl {k : TMod → Gr TMod} {n m : Nat} {ex : Bool} {md : TMod} (h : 16 * m + 1 ≤ n) (hk : ∀ md, 2 ≤ m → Fed (k md) (m - 1) 0) : Fed (pDecl k n ex md) m 1 :=
  .look fun t => .bool (.bind1 (fed_const h) fun h2 c => hk _ h2) (.bool (.bind1 (fed_func h) fun h2 f => hk _ h2) (.err _))
theorem fed_decls : ∀ n m md, 16 * m + 2 ≤ n → Fed (pDecls n md) m 0
  | 0, m, md, h => by omega
  | n + 1, m, md, h => by
    rw [pDecls]
    exact .look fun t => .bool (.ret _) (.bool (Fed.mono (.nextc fun h2 => fed_decl (by omega) fun md h3 => fed_decls n _ _ (by omega)) (by omega : 0 ≤ 1)) (Fed.mono (fed_decl (by omega) fun md h3 => fed_decls n _ _ (by omega)) (by omega)))
theorem fed_module {n m : Nat} (h : 16 * m + 2 ≤ n) : Fed (pModule n) m 0 := .bind0 (fed_incls n m _ (by omega)) fun l => fed_decls n m _ h
theorem fed_end {α : Type} {p : Gr α} {m : Nat} (h : Fed p m 0) : Fed (pEnd p) m 0 := .bind0 h fun x => .look fun t => .bool (.ret _) (.err _)
theorem module_in {n : Nat} (l : List Tk) (h : 16 * l.length + 2 ≤ n) (hl : l ≠ []) : runG (pEnd (pModule n)) l ≠ .out := fun e => by
  have := fed_end (fed_module h) l hl (Nat.le_refl _)
  rw [e] at this
  exact this
theorem expr_in {n : Nat} (l : List Tk) (h : 16 * l.length + 8 ≤ n) (hl : l ≠ []) : runG (pEnd (pLine n 0 0)) l ≠ .out := fun e => by
  have := fed_end ((fed_line (k := 0) (d := 0) (by omega) (by omega : 16 * l.length + 8 ≤ n + 0)).mono (by omega : 0 ≤ 1)) l hl (Nat.le_refl _)
  rw [e] at this
  exact this
end Go.Proofs.YtacfbgfphkfobaaGreatDoor.Id
/-! ## PaEnd -/
namespace Go.Proofs.YtacfbgfphkfobaaGreatDoor.Id
open Go
set_option linter.unusedVariables false
/-- a row of tokens that comes to its end -/
def Endy (l : List Tk) : Prop := ∃ p t, l = p ++ [t] ∧ t.k = 0
theorem Endy.tail {t u : Tk} {r : List Tk} (h : Endy (t :: u :: r)) : Endy (u :: r) := by
  obtain ⟨p, z, h1, h2⟩ := h
  cases p with
  | nil => simp at h1
  | cons a p => simp at h1; exact ⟨p, z, h1.2, h2⟩
theorem Endy.one {t : Tk} (h : Endy [t]) : t.k = 0 := by
  obtain ⟨p, z, h1, h2⟩ := h
  cases p with
  | nil => simp at h1; rw [h1]; exact h2
  | cons a p => simp at h1
/-- never wants a token behind the end; and what it refuses -/
def EndR {α : Type} (l0 : List Tk) : Rs α → Prop
  | .more => ¬ Endy l0
  | .ok _ l => l ≠ [] ∧ (Endy l0 → Endy l)
  | .err e l => (e = 140 ∨ e = 141) ∧ l ≠ []
  | .out => True
def GdAt {α : Type} (t : Tk) (p : Gr α) : Prop := ∀ r, EndR (t :: r) (runG p (t :: r))
def Gd {α : Type} (p : Gr α) : Prop := ∀ t, GdAt t p
section
variable {α β : Type} {t : Tk}
theorem Gd.at {p : Gr α} (h : Gd p) : GdAt t p := h t
theorem Gd.ret (x : α) : Gd (.ret x) := fun t r => ⟨by simp, fun h => h⟩
theorem Gd.err (e : Nat) (h : e = 140 ∨ e = 141 := by decide) : Gd (.err e : Gr α) := fun t r => ⟨h, by simp⟩
theorem Gd.out : Gd (.out : Gr α) := fun t r => trivial
theorem Gd.look {f : Tk → Gr α} (h : ∀ t, GdAt t (f t)) : Gd (.look f) := fun t r => h t r
theorem EndR.sub {l0 l1 : List Tk} (h : Endy l0 → Endy l1) : ∀ {r : Rs α}, EndR l1 r → EndR l0 r
  | .more, k => fun e => k (h e)
  | .ok _ _, k => ⟨k.1, fun e => k.2 (h e)⟩
  | .err _ _, k => k
  | .out, k => k
theorem GdAt.next {g : Gr α} (hk : t.k ≠ 0) (h : Gd g) : GdAt t (.next g) := fun r => by
  cases r with
  | nil => exact fun e => hk e.one
  | cons u r => exact EndR.sub Endy.tail (h u r)
theorem GdAt.bool {b : Bool} {p q : Gr α} (h1 : b = true → GdAt t p) (h2 : GdAt t q) : GdAt t (match b with | true => p | false => q) := by
  cases b
  · exact h2
  · exact h1 rfl
theorem Gd.bool {b : Bool} {p q : Gr α} (h1 : Gd p) (h2 : Gd q) : Gd (match b with | true => p | false => q) := by cases b <;> assumption
theorem GdAt.bind {p : Gr α} {f : α → Gr β} (h : GdAt t p) (k : ∀ x, Gd (f x)) : GdAt t (p.bind f) := fun r => by
  have := h r
  rw [runG_bind]
  revert this
  cases runG p (t :: r) with
  | out => exact fun _ => trivial
  | more => exact fun h => h
  | err e r => exact fun h => h
  | ok x l =>
    rintro ⟨h1, h2⟩
    cases l with
    | nil => exact absurd rfl h1
    | cons u l => exact EndR.sub h2 (k x u l)
theorem Gd.bind {p : Gr α} {f : α → Gr β} (h : Gd p) (k : ∀ x, Gd (f x)) : Gd (p.bind f) := fun t => GdAt.bind (h t) k
theorem isT_ke {x : ByteArray} (h : isT t x = true) : t.k ≠ 0 := fun e => by simp [isT, e] at h
theorem isAny_ke {x : List ByteArray} (h : isAny t x = true) : t.k ≠ 0 := fun e => by simp [isAny, e] at h
theorem dec_k {k : Nat} (hk : k ≠ 0) (h : decide (t.k = k) = true) : t.k ≠ 0 := by rw [of_decide_eq_true h]; exact hk
theorem gd_must (x : ByteArray) : Gd (gMust x) := .look fun t => .bool (fun h => .next (isT_ke h) (.ret _)) (Gd.err _).at
theorem gd_of {k : Nat} (hk : k ≠ 0) : Gd (gOf k) := .look fun t => .bool (fun h => .next (dec_k hk h) (.ret _)) (Gd.err _).at
theorem gd_open (x : ByteArray) (d : Nat) : Gd (gOpen x d) := .look fun t => .bool (fun h => .bool (fun _ => (Gd.err _).at) (.next (isT_ke h) (.ret _))) (Gd.err _).at
theorem gd_sep (n : Nat) : Gd (gSep n) := .bool (.bind (gd_must _) fun _ => .ret _) (.ret _)
theorem gd_type : Gd pType := .look fun t => .bool (fun h => .next (isAny_ke h) (.ret _)) (Gd.err _).at
/-- is this next, and then taken? -/
theorem Gd.is {x : ByteArray} {p q : Gr α} (h1 : ∀ t, isT t x = true → GdAt t p) (h2 : Gd q) : Gd ((gIs x).bind fun | true => p | false => q) := fun t r => by
  rw [runG_is]
  cases h : isT t x
  · exact h2 t r
  · exact h1 t h r
theorem Gd.is' {x : ByteArray} {p q : Gr α} (h1 : ∀ t, isT t x = true → GdAt t p) (h2 : Gd q) : Gd ((gIs x).bind fun | false => q | true => p) := fun t r => by
  rw [runG_is]
  cases h : isT t x
  · exact h2 t r
  · exact h1 t h r
end
theorem gdE : ∀ n, (∀ k d, Gd (pLine n k d)) ∧ (∀ k d e, Gd (pTail n k d e)) ∧ (∀ d, Gd (pUnary n d)) ∧ (∀ d, Gd (pPrim n d)) ∧ (∀ d a of nm, Gd (pName n d a of nm)) ∧ (∀ d, Gd (pArgs n d)) ∧ (∀ d l, Gd (pArgl n d l))
  | 0 => ⟨fun _ _ => .out, fun _ _ _ => .out, fun _ => .out, fun _ => .out, fun _ _ _ _ => .out, fun _ => .out, fun _ _ => .out⟩
  | n + 1 => by
    obtain ⟨h1, h2, h3, h4, h5, h6, h7⟩ := gdE n
    refine ⟨fun k d => ?_, fun k d e => ?_, fun d => ?_, fun d => ?_, fun d a of nm => ?_, fun d => ?_, fun d l => ?_⟩
    · rw [pLine]; exact .bool (h3 d) (.bind (h1 _ _) fun e => h2 _ _ _)
    · rw [pTail]; exact .look fun t => .bool (fun h => .next (isAny_ke h) (.bind (h1 _ _) fun e2 => .bool (.ret _) (h2 _ _ _))) (Gd.ret _).at
    · rw [pUnary]; exact .look fun t => .bool (fun h => .bool (fun _ => (Gd.err _).at) (.next (isAny_ke h) (.bind (h3 _) fun e => .ret _))) (h4 d).at
    · rw [pPrim]
      exact .look fun t => .bool (fun h => .next (dec_k (by omega) h) (.ret _)) (.bool (fun h => .next (dec_k (by omega) h) (.ret _)) (.bool (fun h => .next (isAny_ke h) (.ret _)) (.bool (fun _ => .bind (gd_open _ _).at fun _ => .bind (h1 _ _) fun e => .bind (gd_must _) fun _ => .ret _)
        (.bind (gd_of (by omega)).at fun w => .is (fun t h => .next (isT_ke h) (.bind (gd_of (by omega)) fun w2 => h5 _ _ _ _)) (h5 _ _ _ _)))))
    · rw [pName]; exact .is (fun t h => .bind (h6 d).at fun l => .ret _) (.ret _)
    · rw [pArgs]; exact .bind (gd_open _ _) fun _ => h7 _ _
    · rw [pArgl]; exact .is (fun t h => .next (isT_ke h) (.ret _)) (.bind (gd_sep _) fun _ => .bind (h1 _ _) fun e => h7 _ _)
theorem gd_line {n k d : Nat} : Gd (pLine n k d) := (gdE n).1 k d
theorem gd_args {n d : Nat} : Gd (pArgs n d) := (gdE n).2.2.2.2.2.1 d
theorem gd_semi (s : TStmt) : Gd (gSemi s) := .bind (gd_must _) fun _ => .ret _
theorem gd_named {n d : Nat} : Gd (pNamed n d) := .bind (gd_of (by omega)) fun w => .is (fun t h => .next (isT_ke h) (.bind gd_line fun e => .ret _)) (.is (fun t h => .next (isT_ke h) (.bind (gd_of (by omega)) fun w2 => .bind gd_args fun l => .ret _)) (.bind gd_args fun l => .ret _))
theorem gdS : ∀ n, (∀ d, Gd (pBlock n d)) ∧ (∀ d l, Gd (pStmts n d l)) ∧ (∀ d, Gd (pStmt n d)) ∧ (∀ d, Gd (pBranch n d))
  | 0 => ⟨fun _ => .out, fun _ _ => .out, fun _ => .out, fun _ => .out⟩
  | n + 1 => by
    obtain ⟨h1, h2, h3, h4⟩ := gdS n
    refine ⟨fun d => ?_, fun d l => ?_, fun d => ?_, fun d => ?_⟩
    · rw [pBlock]; exact .bind (gd_open _ _) fun _ => h2 _ _
    · rw [pStmts]; exact .is (fun t h => .next (isT_ke h) (.ret _)) (.bind (h3 d) fun s => h2 _ _)
    · rw [pStmt]
      exact .look fun t => .bool (fun h => .next (isT_ke h) (.bind (gd_of (by omega)) fun w => .bind (gd_must _) fun _ => .bind gd_line fun e => gd_semi _)) (.bool (fun _ => (h4 d).at) (.bool (fun h => .next (isT_ke h) (.bind gd_line fun e => .bind (h1 d) fun b => .ret _))
        (.bool (fun h => .next (isT_ke h) (.is (fun t _ => (gd_semi _).at) (.bind gd_line fun e => gd_semi _))) (.bool (fun h => .next (isT_ke h) (.bind gd_line fun e => gd_semi _)) (.bind gd_named.at fun x => gd_semi _)))))
    · rw [pBranch]
      exact .bind (gd_must _) fun a => .bind gd_line fun e => .bind (h1 d) fun b => .is' (fun t h => .next (isT_ke h) (.is (fun t _ => .bind (h4 d).at fun s => .ret _) (.bind (h1 d) fun l => .ret _))) (.ret _)
theorem gd_block {n d : Nat} : Gd (pBlock n d) := (gdS n).1 d
theorem gd_param : Gd pParam := .bind (gd_of (by omega)) fun w => .bind (gd_must _) fun _ => .bind gd_type fun t => .ret _
theorem gd_params : ∀ n l, Gd (pParams n l)
  | 0, l => .out
  | n + 1, l => by rw [pParams]; exact .is (fun t h => .next (isT_ke h) (.ret _)) (.bind (gd_sep _) fun _ => .bind gd_param fun x => gd_params n _)
theorem gd_func {n : Nat} {ex : Bool} : Gd (pFunc n ex) := .bind (gd_must _) fun _ => .bind (gd_of (by omega)) fun w => .bind (gd_open _ _) fun _ => .bind (gd_params _ _) fun ps => .is (fun t h => .next (isT_ke h) (.bind gd_type fun t => .bind gd_block fun b => .ret _)) (.bind gd_block fun b => .ret _)
theorem gd_const {n : Nat} {ex : Bool} : Gd (pConst n ex) := .bind (gd_must _) fun _ => .bind (gd_of (by omega)) fun w => .bind (gd_must _) fun _ => .bind gd_line fun e => .bind (gd_must _) fun _ => .ret _
theorem gd_incl : Gd pIncl := .bind (gd_must _) fun _ => .bind (gd_of (by omega)) fun w => .bind (gd_must _) fun _ => .bind (gd_of (by omega)) fun e => .bind (gd_must _) fun _ => .ret _
theorem gd_incls : ∀ n l, Gd (pIncls n l)
  | 0, l => .out
  | n + 1, l => by rw [pIncls]; exact .is (fun t h => .bind gd_incl.at fun x => gd_incls n _) (.ret _)
theorem gd_decl {k : TMod → Gr TMod} {n : Nat} {ex : Bool} {md : TMod} (hk : ∀ md, Gd (k md)) : Gd (pDecl k n ex md) :=
  .look fun t => .bool (fun _ => .bind gd_const.at fun c => hk _) (.bool (fun _ => .bind gd_func.at fun f => hk _) (Gd.err _).at)
theorem gd_decls : ∀ n md, Gd (pDecls n md)
  | 0, md => .out
  | n + 1, md => by rw [pDecls]; exact .look fun t => .bool (fun _ => (Gd.ret _).at) (.bool (fun h => .next (isT_ke h) (gd_decl fun md => gd_decls n _)) (gd_decl fun md => gd_decls n _).at)
theorem gd_module {n : Nat} : Gd (pModule n) := .bind (gd_incls n _) fun l => gd_decls n _
theorem gd_end {α : Type} {p : Gr α} (h : Gd p) : Gd (pEnd p) := .bind h fun x => .look fun t => .bool (fun _ => (Gd.ret _).at) (Gd.err _).at
end Go.Proofs.YtacfbgfphkfobaaGreatDoor.Id
/-! ## PaOut -/
namespace Go.Proofs.YtacfbgfphkfobaaGreatDoor.Id
open Go
set_option linter.unusedVariables false
set_option linter.unusedSimpArgs false
variable {X : Given}
theorem chain_det {s : ByteArray} {i b : Nat} {l l' : List Tk} {f f' : Nat × Nat} (h : Chain s i b l f) (h' : Chain s i b l' f') : l = l' ∧ (f = f' ∨ Endy l) := by
  induction h generalizing l' f' with
  | bad h1 =>
    cases h' with
    | bad _ => exact ⟨rfl, .inl rfl⟩
    | fin h2 _ => exact absurd h2 h1
    | out h2 _ => exact absurd h2 h1
    | tok h2 _ _ => exact absurd h2 h1
  | fin h1 h2 =>
    cases h' with
    | bad h => exact absurd h1 h
    | fin _ _ => exact ⟨rfl, .inr ⟨[], _, rfl, h2⟩⟩
    | out _ h => exact absurd h2 h
    | tok _ h _ => exact absurd h2 h
  | out h1 h2 =>
    cases h' with
    | bad h => exact absurd h1 h
    | fin _ h => exact absurd h h2
    | out _ _ => exact ⟨rfl, .inl rfl⟩
  | tok h1 h2 h3 ih =>
    cases h' with
    | bad h => exact absurd h1 h
    | fin _ h => exact absurd h h2
    | tok _ _ h =>
      obtain ⟨rfl, h5⟩ := ih h
      exact ⟨rfl, h5.imp id fun ⟨p, t, h6, h7⟩ => ⟨_ :: p, t, by rw [h6]; rfl, h7⟩⟩
/-- the tokens come to the end, or there is a fault -/
theorem chain_f {s : ByteArray} {i b : Nat} {l : List Tk} {f : Nat × Nat} (h : Chain s i b l f) : (l ≠ [] ∧ Endy l) ∨ f.1 ≠ 0 := by
  induction h with
  | bad h1 => exact .inr h1
  | fin h1 h2 => exact .inl ⟨by simp, [], _, rfl, h2⟩
  | out h1 h2 => exact .inr (fun h => by cases h)
  | tok h1 h2 h3 ih => exact ih.imp (fun ⟨_, p, t, h6, h7⟩ => ⟨by simp, _ :: p, t, by rw [h6]; rfl, h7⟩) id
theorem chain_len {s : ByteArray} {i b : Nat} {l : List Tk} {f : Nat × Nat} (h : Chain s i b l f) : i ≤ s.size → l.length ≤ s.size - i + 1 := by
  induction h with
  | bad h1 => intro _; simp
  | fin h1 h2 => intro _; simp
  | out h1 h2 => intro _; simp
  | @tok i b l f h1 h2 h3 ih =>
    intro hi
    have := nx_adv (L s) i (by rw [L_length]; exact hi) h1 h2
    rw [L_length] at this
    have := ih (by omega)
    simp only [List.length_cons]
    omega
/-- a reading's tree and fault -/
def Answ {α : Type} (z : α) (f : Nat × Nat) : Rs α → Nat × Nat → α → Prop
  | .ok x _, g, y => g = (0, 0) ∧ y = x
  | .more, g, y => g = f ∧ f.1 ≠ 0 ∧ y = z
  | .err e l, g, y => (e = 140 ∨ e = 141) ∧ y = z ∧ ∃ t r, l = t :: r ∧ g = (e, t.a)
  | .out, _, _ => False
abbrev bigN : Nat := 100000000
abbrev md0 : TMod := ⟨[], [], []⟩
abbrev ex0 : TExpr := .mk 0 0 .empty .empty ⟨0, 0, false, .empty⟩ 0 []
theorem runL_more {α : Type} {p : Gr α} (hp : Gd p) {s : ByteArray} {b : Nat} {l : List Tk} {f : Nat × Nat} (hc : Chain s 0 b l f) (h : runL p l = .more) : f.1 ≠ 0 := by
  rcases chain_f hc with ⟨h1, h2⟩ | h1
  · cases l with
    | nil => exact absurd rfl h1
    | cons t r =>
      have := hp t r
      rw [show runG p (t :: r) = .more from h] at this
      exact absurd h2 this
  · exact h1
theorem runL_err {α : Type} {p : Gr α} (hp : Gd p) {l l' : List Tk} {e : Nat} (h : runL p l = .err e l') : e = 140 ∨ e = 141 := by
  cases l with
  | nil => cases h
  | cons t r =>
    have := hp t r
    rw [show runG p (t :: r) = .err e l' from h] at this
    exact this.1
theorem module_does (hX : LibX X) {s : ByteArray} {F : Int} (hs : s.size ≤ 65536) (hF : F ≤ 9223372036854775807) {l : List Tk} {f : Nat × Nat} (hc : Chain s 0 F.toNat l f) :
    ∃ g m, Answ md0 f (runL (pEnd (pModule bigN)) l) g m ∧ Does (OrX X) 11 [vS s, vI F] [] (.ret (.tuple [.agg (mD m), .agg [cZ g.1, cZ g.2]]) []) := by
  have hlen := chain_len hc (by omega)
  have hne : runL (pEnd (pModule bigN)) l ≠ .out := by
    cases l with
    | nil => exact fun h => by cases h
    | cons t r => exact module_in _ (by show _ ≤ 100000000; omega) (by simp)
  obtain ⟨T, e, q, cs', h1, h2⟩ := read_mod hX ⟨s, F.toNat, l.length, f, hs, by omega⟩ (F := F) (mx_nat F) (n := bigN) (by decide) hc rfl hne
  cases hr : runL (pEnd (pModule bigN)) l with
  | ok m r =>
    rw [hr] at h1
    obtain ⟨_, rfl, rfl, rfl⟩ := h1
    exact ⟨(0, 0), m, ⟨rfl, rfl⟩, t_mod_ok h2⟩
  | more =>
    rw [hr] at h1
    obtain ⟨_, rfl, rfl, h3⟩ := h1
    have := runL_more (gd_end gd_module) hc hr
    exact ⟨f, md0, ⟨rfl, this, rfl⟩, t_mod_err h2 h3 (.inl (by simpa using this))⟩
  | err c r =>
    rw [hr] at h1
    obtain ⟨t, r', rfl, _, rfl, rfl, h3⟩ := h1
    have := runL_err (gd_end gd_module) hr
    exact ⟨(c, t.a), md0, ⟨this, rfl, t, r', rfl, rfl⟩, t_mod_err h2 h3 (.inl (by omega))⟩
  | out => exact absurd hr hne
theorem module_big {s : ByteArray} {F : Int} (hs : 65536 < s.size) : Does (OrX X) 11 [vS s, vI F] [] (.ret (.tuple [.agg (mD md0), .agg [cZ 3, cZ 0]]) []) :=
  t_mod_err (big_mod hs) (.inl rfl) (.inl (by decide))
theorem expr_does (hX : LibX X) {s : ByteArray} {F : Int} (hs : s.size ≤ 65536) (hF : F ≤ 9223372036854775807) {l : List Tk} {f : Nat × Nat} (hc : Chain s 0 F.toNat l f) :
    ∃ g e, Answ ex0 f (runL (pEnd (pLine bigN 0 0)) l) g e ∧ Does (OrX X) 16 [vS s, vI F] [] (.ret (.tuple [.agg (eD e), .agg [cZ g.1, cZ g.2]]) []) := by
  have hlen := chain_len hc (by omega)
  have hne : runL (pEnd (pLine bigN 0 0)) l ≠ .out := by
    cases l with
    | nil => exact fun h => by cases h
    | cons t r => exact expr_in _ (by show _ ≤ 100000000; omega) (by simp)
  obtain ⟨T, e, q, cs', h1, h2⟩ := read_expr hX ⟨s, F.toNat, l.length, f, hs, by omega⟩ (F := F) (mx_nat F) (n := bigN) (by decide) hc rfl hne
  cases hr : runL (pEnd (pLine bigN 0 0)) l with
  | ok m r =>
    rw [hr] at h1
    obtain ⟨_, rfl, rfl, rfl⟩ := h1
    exact ⟨(0, 0), m, ⟨rfl, rfl⟩, t_expr_ok h2⟩
  | more =>
    rw [hr] at h1
    obtain ⟨_, rfl, rfl, h3⟩ := h1
    have := runL_more (gd_end gd_line) hc hr
    exact ⟨f, ex0, ⟨rfl, this, rfl⟩, t_expr_err h2 h3 (.inl (by simpa using this))⟩
  | err c r =>
    rw [hr] at h1
    obtain ⟨t, r', rfl, _, rfl, rfl, h3⟩ := h1
    have := runL_err (gd_end gd_line) hr
    exact ⟨(c, t.a), ex0, ⟨this, rfl, t, r', rfl, rfl⟩, t_expr_err h2 h3 (.inl (by omega))⟩
  | out => exact absurd hr hne
theorem expr_big {s : ByteArray} {F : Int} (hs : 65536 < s.size) : Does (OrX X) 16 [vS s, vI F] [] (.ret (.tuple [.agg (eD ex0), .agg [cZ 3, cZ 0]]) []) :=
  t_expr_err (big_expr hs) (.inl rfl) (.inl (by decide))
end Go.Proofs.YtacfbgfphkfobaaGreatDoor.Id
/-! ## DenExt -/
namespace Go.Proofs.YtacfbgfphkfobaaGreatDoor.Id
open Go
set_option linter.unusedVariables false
set_option linter.unusedSimpArgs false
/-- what may stand behind a token: nothing, or a blank -/
def Blank (u : List UInt8) : Prop := u = [] ∨ ∃ t, u = 32 :: t
theorem blank_tw (p : UInt8 → Bool) (hp : p 32 = false) (u : List UInt8) (hu : Blank u) : u.takeWhile p = [] := by
  rcases hu with rfl | ⟨t, rfl⟩
  · rfl
  · rw [List.takeWhile_cons, hp]; rfl
theorem tw_ext (p : UInt8 → Bool) (hp : p 32 = false) (u : List UInt8) (hu : Blank u) : ∀ l : List UInt8, l.all p = true → (l ++ u).takeWhile p = l
  | [], _ => blank_tw p hp u hu
  | c :: r, h => by
    rw [List.all_cons, Bool.and_eq_true] at h
    rw [List.cons_append, List.takeWhile_cons, if_pos h.1, tw_ext p hp u hu r h.2]
theorem pc_ext {l u : List UInt8} {b : UInt8} {n : Nat} (h : pc l = some (b, n)) : pc (l ++ u) = some (b, n) := by
  cases l with
  | nil => cases h
  | cons c r =>
    rw [List.cons_append]
    simp only [pc] at h ⊢
    by_cases h1 : c.toNat = 92
    · rw [if_pos h1] at h ⊢
      cases r with
      | nil => cases h
      | cons d r =>
        simp only at h
        rw [List.cons_append]
        simp only
        by_cases d1 : d.toNat = 110
        · rw [if_pos d1] at h ⊢; exact h
        rw [if_neg d1] at h ⊢
        by_cases d2 : d.toNat = 116
        · rw [if_pos d2] at h ⊢; exact h
        rw [if_neg d2] at h ⊢
        by_cases d3 : d.toNat = 34 ∨ d.toNat = 92
        · rw [if_pos d3] at h ⊢; exact h
        rw [if_neg d3] at h ⊢
        by_cases d4 : d.toNat = 120
        · rw [if_pos d4] at h ⊢
          match r, h with
          | [], h => cases h
          | [a], h => cases h
          | a :: b' :: r, h => exact h
        · rw [if_neg d4] at h; cases h
    · rw [if_neg h1] at h ⊢; exact h
theorem ql_ext : ∀ (f : Nat) (l u t : List UInt8) (q : Nat), ql f l = some (t, q) → ql f (l ++ u) = some (t, q)
  | 0, l, u, t, q, h => by cases h
  | f + 1, [], u, t, q, h => by cases h
  | f + 1, c :: r, u, t, q, h => by
    rw [List.cons_append]
    unfold ql at h ⊢
    by_cases h1 : c.toNat = 34
    · rw [if_pos h1] at h ⊢; exact h
    rw [if_neg h1] at h ⊢
    cases hp : pc (c :: r) with
    | none => rw [hp] at h; cases h
    | some z =>
      obtain ⟨b, n⟩ := z
      have hn := (pc_pos hp).2
      rw [hp] at h
      simp only at h
      cases hx : ql f ((c :: r).drop n) with
      | none => rw [hx] at h; cases h
      | some z =>
        obtain ⟨t', q'⟩ := z
        rw [hx] at h
        have hp' := pc_ext (u := u) hp
        rw [List.cons_append] at hp'
        rw [hp']
        simp only
        have e : (c :: (r ++ u)).drop n = (c :: r).drop n ++ u := by rw [← List.cons_append, List.drop_append_of_le_length hn]
        rw [e, ql_ext f _ u t' q' hx]
        exact h
theorem quo_ext {r t u : List UInt8} {n : Nat} (h : quo r = some (t, n)) : quo (r ++ u) = some (t, n) := by
  unfold quo at h ⊢
  cases hx : ql (r.length + 1) r with
  | none => rw [hx] at h; cases h
  | some z =>
    obtain ⟨t', q⟩ := z
    rw [hx] at h
    have h1 := ql_ext _ r u t' q (show ql ((r ++ u).length + 1) r = some (t', q) by rw [← hx]; exact ql_fuel _ _ r (by rw [List.length_append]; omega) (by omega))
    rw [h1]; exact h
theorem sgn_two : ∀ c : UInt8, [c, 32] ∉ twoSigns := by
  intro c h
  unfold twoSigns at h
  simp at h
theorem sgn_ext (l u : List UInt8) (h : sgn l ≠ 0) (hu : Blank u) (hl : l ≠ []) : sgn (l.take (sgn l) ++ u) = sgn l := by
  cases l with
  | nil => exact absurd rfl hl
  | cons c r =>
    by_cases ht : (c :: r).take 2 ∈ twoSigns
    · have e : sgn (c :: r) = 2 := by unfold sgn; rw [if_pos ht]
      have h2 := two_len _ ht
      rw [e]
      have e3 : ((c :: r).take 2 ++ u).take 2 = (c :: r).take 2 := by rw [List.take_append_of_le_length (by omega), List.take_take]; rfl
      unfold sgn
      rw [e3, if_pos ht]
    · have e : sgn (c :: r) = 1 := by
        unfold sgn at h ⊢
        rw [if_neg ht] at h ⊢
        simp only at h ⊢
        split
        · rfl
        · rename_i hx; rw [if_neg hx] at h; exact absurd rfl h
      have hc : c ∈ oneSigns := by
        unfold sgn at e
        rw [if_neg ht] at e
        simp only at e
        split at e
        · assumption
        · cases e
      rw [e]
      show sgn (c :: ([] ++ u)) = 1
      rw [List.nil_append]
      unfold sgn
      have h2 : ¬ (c :: u).take 2 ∈ twoSigns := by
        rcases hu with rfl | ⟨t, rfl⟩
        · intro hx; have := two_len _ hx; simp at this
        · exact sgn_two c
      rw [if_neg h2]
      simp only
      rw [if_pos hc]
/-- a token is itself with a blank behind it -/
theorem tok_ext (l u : List UInt8) (h : (tok l).2.2 = 0) (hu : Blank u) : tok (l.take (tok l).2.1 ++ u) = tok l := by
  have hpos := (tok_ok l h).1
  have hle := tok_le l
  cases l with
  | nil => cases h
  | cons c r =>
    change (tokC c r).2.2 = 0 at h
    change 1 ≤ (tokC c r).2.1 at hpos
    show tok ((c :: r).take (tokC c r).2.1 ++ u) = tokC c r
    obtain ⟨m, hm⟩ : ∃ m, (tokC c r).2.1 = m + 1 := ⟨(tokC c r).2.1 - 1, by omega⟩
    have hw32 : isW 32 = false := by decide
    have hd32 : isD 32 = false := by decide
    rw [hm, List.take_succ_cons, List.cons_append]
    show tokC c (r.take m ++ u) = tokC c r
    have et : c :: (r.take m ++ u) = (c :: r).take (m + 1) ++ u := by rw [List.take_succ_cons, List.cons_append]
    unfold tokC at h hm ⊢
    rw [et]
    by_cases h1 : isL c = true
    · rw [if_pos h1] at h hm ⊢
      rw [if_pos h1]
      have hn : ((c :: r).takeWhile isW).length = m + 1 := by
        by_cases h2 : 32 < ((c :: r).takeWhile isW).length
        · rw [if_pos h2] at h; cases h
        rw [if_neg h2] at hm
        split at hm <;> exact hm
      have htk := tw_take isW (c :: r)
      rw [hn] at htk
      have hext := tw_ext isW hw32 u hu ((c :: r).take (m + 1)) (by rw [htk]; exact tw_all isW _)
      have hlen : ((c :: r).take (m + 1)).length = m + 1 := by rw [htk]; exact hn
      rw [hext, hlen, hn, List.take_append_of_le_length (by omega), List.take_take, Nat.min_self]
    rw [if_neg h1] at h hm ⊢
    rw [if_neg h1]
    by_cases h2 : isD c = true
    · rw [if_pos h2] at h hm ⊢
      rw [if_pos h2]
      by_cases h3 : (numOk ((c :: r).take ((c :: r).takeWhile isD).length) && !headL ((c :: r).drop ((c :: r).takeWhile isD).length)) = true
      · rw [if_pos h3] at hm ⊢
        have hn : ((c :: r).takeWhile isD).length = m + 1 := hm
        have htk := tw_take isD (c :: r)
        rw [hn] at htk h3
        have hext := tw_ext isD hd32 u hu ((c :: r).take (m + 1)) (by rw [htk]; exact tw_all isD _)
        have hlen : ((c :: r).take (m + 1)).length = m + 1 := by rw [htk]; exact hn
        rw [hext, hlen, hn, List.take_append_of_le_length (by omega), List.take_take, Nat.min_self]
        rw [Bool.and_eq_true] at h3
        have hh : headL (((c :: r).take (m + 1) ++ u).drop (m + 1)) = false := by
          rw [List.drop_append_of_le_length (by omega), List.drop_eq_nil_of_le (by omega), List.nil_append]
          rcases hu with rfl | ⟨t, rfl⟩
          · rfl
          · show isL 32 = false; decide
        rw [hh, h3.1]; rfl
      · rw [if_neg h3] at h; cases h
    rw [if_neg h2] at h hm ⊢
    rw [if_neg h2]
    by_cases h3 : c.toNat = 34
    · rw [if_pos h3] at h hm ⊢
      rw [if_pos h3]
      cases hq : quo r with
      | none => rw [hq] at h; cases h
      | some z =>
        obtain ⟨t, n⟩ := z
        rw [hq] at hm
        rw [quo_ext (quo_cut (m := m) hq (by simp only at hm; omega))]
    rw [if_neg h3] at h hm ⊢
    rw [if_neg h3]
    by_cases h4 : sgn (c :: r) = 0
    · rw [if_pos h4] at h; cases h
    rw [if_neg h4] at hm ⊢
    simp only at hm
    have e := sgn_ext (c :: r) u h4 hu (by simp)
    rw [hm] at e
    rw [e, hm, if_neg (by omega)]
/-- no gap ahead of it, then none ahead of it with a blank behind it -/
theorem gap_ext (l u : List UInt8) (n : Nat) (hn : 1 ≤ n) (hl : l ≠ []) (hg : gapL false l = 0) (hu : Blank u) : gapL false (l.take n ++ u) = 0 := by
  cases l with
  | nil => exact absurd rfl hl
  | cons c r =>
    obtain ⟨m, rfl⟩ : ∃ m, n = m + 1 := ⟨n - 1, by omega⟩
    rw [List.take_succ_cons, List.cons_append]
    unfold gapL at hg ⊢
    by_cases h1 : isSp c = true
    · rw [if_pos h1] at hg; omega
    rw [if_neg h1] at hg ⊢
    by_cases h2 : (isSl c && headSl r) = true
    · rw [if_pos h2] at hg; omega
    have h3 : ¬ (isSl c && headSl (r.take m ++ u)) = true := by
      rw [Bool.and_eq_true] at h2 ⊢
      intro ⟨ha, hb⟩
      apply h2
      refine ⟨ha, ?_⟩
      cases m with
      | zero =>
        rw [List.take_zero, List.nil_append] at hb
        rcases hu with rfl | ⟨t, rfl⟩
        · cases hb
        · exact absurd hb (by show ¬ isSl 32 = true; decide)
      | succ m =>
        cases r with
        | nil =>
          rw [List.take_nil, List.nil_append] at hb
          rcases hu with rfl | ⟨t, rfl⟩
          · cases hb
          · exact absurd hb (by show ¬ isSl 32 = true; decide)
        | cons d r => exact hb
    rw [if_neg h3]
end Go.Proofs.YtacfbgfphkfobaaGreatDoor.Id
/-! ## DenApp -/
namespace Go.Proofs.YtacfbgfphkfobaaGreatDoor.Id
open Go
set_option linter.unusedVariables false
set_option linter.unusedSimpArgs false
theorem tw_app (p : UInt8 → Bool) (hp : p 32 = false) (u : List UInt8) (hu : Blank u) : ∀ l : List UInt8, (l ++ u).takeWhile p = l.takeWhile p
  | [] => blank_tw p hp u hu
  | c :: r => by
    rw [List.cons_append, List.takeWhile_cons, List.takeWhile_cons, tw_app p hp u hu r]
theorem headL_app (x u : List UInt8) (hu : Blank u) : headL (x ++ u) = headL x := by
  cases x with
  | cons c r => rfl
  | nil =>
    rcases hu with rfl | ⟨t, rfl⟩
    · rfl
    · show isL 32 = false; decide
theorem sgn_app (l u : List UInt8) (h : sgn l ≠ 0) (hu : Blank u) : sgn (l ++ u) = sgn l := by
  match l with
  | [] => exact absurd rfl h
  | [c] =>
    have := sgn_ext [c] u h hu (by simp)
    rwa [List.take_of_length_le (by simp; omega)] at this
  | c :: d :: r => rfl
theorem tok_app (l u : List UInt8) (h : (tok l).2.2 = 0) (hu : Blank u) : tok (l ++ u) = tok l := by
  cases l with
  | nil => cases h
  | cons c r =>
    change (tokC c r).2.2 = 0 at h
    show tokC c (r ++ u) = tokC c r
    have hw32 : isW 32 = false := by decide
    have hd32 : isD 32 = false := by decide
    have et : c :: (r ++ u) = (c :: r) ++ u := rfl
    have lw := tw_app isW hw32 u hu (c :: r)
    have ld := tw_app isD hd32 u hu (c :: r)
    have nw : ((c :: r).takeWhile isW).length ≤ (c :: r).length := (List.takeWhile_sublist _).length_le
    have nd : ((c :: r).takeWhile isD).length ≤ (c :: r).length := (List.takeWhile_sublist _).length_le
    unfold tokC at h ⊢
    rw [et]
    by_cases h1 : isL c = true
    · rw [if_pos h1, if_pos h1, lw, List.take_append_of_le_length nw]
    rw [if_neg h1] at h
    rw [if_neg h1, if_neg h1]
    by_cases h2 : isD c = true
    · rw [if_pos h2, if_pos h2, ld, List.take_append_of_le_length nd, List.drop_append_of_le_length nd, headL_app _ _ hu]
    rw [if_neg h2] at h
    rw [if_neg h2, if_neg h2]
    by_cases h3 : c.toNat = 34
    · rw [if_pos h3] at h
      rw [if_pos h3, if_pos h3]
      cases hq : quo r with
      | none => rw [hq] at h; cases h
      | some z =>
        obtain ⟨t, n⟩ := z
        rw [quo_ext hq]
    rw [if_neg h3] at h
    rw [if_neg h3, if_neg h3]
    by_cases h4 : sgn (c :: r) = 0
    · rw [if_pos h4] at h; cases h
    rw [sgn_app _ _ h4 hu]
theorem headSl_app (x u : List UInt8) (hu : Blank u) : headSl (x ++ u) = headSl x := by
  cases x with
  | cons c r => rfl
  | nil =>
    rcases hu with rfl | ⟨t, rfl⟩
    · rfl
    · show isSl 32 = false; decide
theorem gap_app (u : List UInt8) (hu : Blank u) : ∀ (l : List UInt8) (st : Bool), gapL st l < l.length → gapL st (l ++ u) = gapL st l
  | [], st, h => absurd h (Nat.not_lt_zero _)
  | c :: r, true, h => by
    rw [List.cons_append]
    unfold gapL at h ⊢
    simp only [List.length_cons] at h
    split
    · rename_i h1; rw [if_pos h1] at h; rw [gap_app u hu r false (by omega)]
    · rename_i h1; rw [if_neg h1] at h; rw [gap_app u hu r true (by omega)]
  | c :: r, false, h => by
    rw [List.cons_append]
    unfold gapL at h ⊢
    simp only [List.length_cons] at h
    rw [headSl_app _ _ hu]
    split
    · rename_i h1; rw [if_pos h1] at h; rw [gap_app u hu r false (by omega)]
    · rename_i h1
      rw [if_neg h1] at h
      split
      · rename_i h2; rw [if_pos h2] at h; rw [gap_app u hu r true (by omega)]
      · rfl
/-- the next token of a text is that of the longer text -/
theorem nx_app (l u : List UInt8) (hu : Blank u) (i : Nat) (hi : i ≤ l.length) (he : (nx l i).2.2.2 = 0) (hk : (nx l i).1 ≠ 0) : nx (l ++ u) i = nx l i := by
  have h1 := nx_fr l i
  obtain ⟨h2, h3, h4⟩ := nx_tok l i he hk
  have hadv := nx_adv l i hi he hk
  have hg : gapL false ((l ++ u).drop i) = gapL false (l.drop i) := by
    rw [List.drop_append_of_le_length hi]
    exact gap_app u hu _ _ (by rw [List.length_drop]; omega)
  have ht : tok ((l ++ u).drop (i + gapL false (l.drop i))) = tok (l.drop (i + gapL false (l.drop i))) := by
    rw [← h1, List.drop_append_of_le_length (by omega)]
    exact tok_app _ _ (by rw [h4]) hu
  have hne : ¬ i + gapL false (l.drop i) = l.length := by omega
  have hne' : ¬ i + gapL false (l.drop i) = (l ++ u).length := by rw [List.length_append]; omega
  unfold nx
  rw [hg, ht, if_neg hne, if_neg hne']
/-- a token's own start leads to it -/
theorem nx_start (l : List UInt8) (i : Nat) (he : (nx l i).2.2.2 = 0) (hk : (nx l i).1 ≠ 0) : nx l (nx l i).2.1 = nx l i := by
  have h1 := nx_fr l i
  obtain ⟨h2, h3, h4⟩ := nx_tok l i he hk
  generalize hq : (nx l i).2.1 = q at *
  have : nx l q = nx l i := by
    unfold nx
    rw [h2, Nat.add_zero, ← h1]
  exact this
/-- a text that ends with a token, then a blank and any other: the tokens up to it -/
theorem nx_glue (l u : List UInt8) (hu : Blank u) (p i : Nat) (hp : p ≤ l.length) (hi : i ≤ l.length) (he : (nx l i).2.2.2 = 0) (hk : (nx l i).1 ≠ 0) (hb : (nx l i).2.2.1 ≤ p) : nx (l.take p ++ u) i = nx l i := by
  have hadv := nx_adv l i hi he hk
  have h1 := nx_cut l i p hp he hk hb hi
  rw [← h1]
  exact nx_app _ _ hu i (by rw [List.length_take]; omega) (by rw [h1]; exact he) (by rw [h1]; exact hk)
end Go.Proofs.YtacfbgfphkfobaaGreatDoor.Id
/-! ## PaCut -/
namespace Go.Proofs.YtacfbgfphkfobaaGreatDoor.Id
open Go
set_option linter.unusedVariables false
set_option linter.unusedSimpArgs false
/-- a refusal at a token does not hang on what is behind it -/
theorem runG_cut {α : Type} {p : Gr α} : ∀ {l r : List Tk} {t : Tk} {c : Nat}, runG p l = .err c (t :: r) → ∃ pre, l = pre ++ t :: r ∧ ∀ r', runG p (pre ++ t :: r') = .err c (t :: r') := by
  induction p with
  | ret x => intro l r t c h; cases h
  | look f ih =>
    intro l r t c h
    cases l with
    | nil => cases h
    | cons z y =>
      obtain ⟨pre, h1, h2⟩ := ih z (l := z :: y) h
      refine ⟨pre, h1, fun r' => ?_⟩
      have h3 := h2 r'
      cases pre with
      | nil => simp only [List.nil_append, List.cons.injEq] at h1 h3 ⊢; obtain ⟨rfl, _⟩ := h1; exact h3
      | cons a pre => simp only [List.cons_append, List.cons.injEq] at h1 h3 ⊢; obtain ⟨rfl, _⟩ := h1; exact h3
  | next g ih =>
    intro l r t c h
    match l with
    | [] => cases h
    | [z] => cases h
    | z :: y :: w =>
      obtain ⟨pre, h1, h2⟩ := ih (l := y :: w) h
      refine ⟨z :: pre, by rw [h1]; rfl, fun r' => ?_⟩
      have h3 := h2 r'
      cases pre with
      | nil => exact h3
      | cons a pre => exact h3
  | err e => intro l r t c h; cases h; exact ⟨[], rfl, fun r' => rfl⟩
  | out => intro l r t c h; cases h
theorem chain_ge {s : ByteArray} {i b : Nat} {l : List Tk} {f : Nat × Nat} (h : Chain s i b l f) : i ≤ s.size → ∀ t ∈ l, i ≤ t.a ∧ t.a + t.s.size ≤ s.size := by
  induction h with
  | bad h1 => intro _ t ht; cases ht
  | out h1 h2 => intro _ t ht; cases ht
  | @fin i b f h1 h2 =>
    intro hi t ht
    rw [List.mem_singleton] at ht
    subst ht
    have := tkAt_to s i hi h1
    have h3 := nx_fr (L s) i
    have h4 : (tkAt s i).a = (nx (L s) i).2.1 := rfl
    omega
  | @tok i b l f h1 h2 h3 ih =>
    intro hi t ht
    have h5 := tkAt_to s i hi h1
    have hadv := nx_adv (L s) i (by rw [L_length]; exact hi) h1 h2
    have h4 : (tkAt s i).a = (nx (L s) i).2.1 := rfl
    rcases List.mem_cons.1 ht with rfl | ht
    · omega
    · have := ih h5.2 t ht
      omega
theorem tkAt_eq {s s' : ByteArray} {u : List UInt8} {p i : Nat} (hL : L s' = (L s).take p ++ u) (hp : p ≤ s.size) (hn : nx (L s') i = nx (L s) i) (hb : (nx (L s) i).2.2.1 ≤ p) : tkAt s' i = tkAt s i := by
  unfold tkAt
  rw [hn]
  have : s'.extract (nx (L s) i).2.1 (nx (L s) i).2.2.1 = s.extract (nx (L s) i).2.1 (nx (L s) i).2.2.1 := by
    apply L_inj
    rw [L_extract, L_extract, hL]
    generalize (nx (L s) i).2.1 = a at *
    generalize (nx (L s) i).2.2.1 = b at *
    have hl : (L s).length = s.size := L_length s
    by_cases h : a ≤ p
    · rw [List.drop_append_of_le_length (by rw [List.length_take]; omega), List.take_append_of_le_length (by rw [List.length_drop, List.length_take]; omega), List.drop_take, List.take_take]
      congr 1; omega
    · rw [show b - a = 0 by omega]; simp
  rw [this]
/-- the tokens up to one, of a text that goes on otherwise behind it -/
theorem chain_glue {s s' : ByteArray} {u : List UInt8} {t : Tk} (hu : Blank u) (hL : L s' = (L s).take (t.a + t.s.size) ++ u) (hk : t.k ≠ 0) : ∀ (pre : List Tk) {r : List Tk} {i b : Nat} {f : Nat × Nat}, i ≤ s.size → Chain s i b (pre ++ t :: r) f → ∃ r' f', Chain s' i b (pre ++ t :: r') f'
  | pre, r, i, b, f, hi, h => by
    have hge := chain_ge h hi t (by simp)
    have hlen : s'.size = t.a + t.s.size + u.length := by rw [← L_length, hL, List.length_append, List.length_take, L_length]; omega
    generalize hl : pre ++ t :: r = l at h
    cases h with
    | bad h1 => simp at hl
    | out h1 h2 => simp at hl
    | fin h1 h2 =>
      cases pre with
      | nil => simp at hl; exact absurd (by rw [hl.1]; exact h2) hk
      | cons a pre => simp at hl
    | @tok i b l f h1 h2 h3 =>
      have h5 := tkAt_to s i hi h1
      have hadv := nx_adv (L s) i (by rw [L_length]; exact hi) h1 h2
      have hto : (nx (L s) i).2.2.1 ≤ t.a + t.s.size := by
        cases pre with
        | nil => simp at hl; rw [hl.1]; omega
        | cons a pre =>
          simp at hl
          have := chain_ge h3 h5.2 t (by rw [← hl.2]; simp)
          omega
      have hn : nx (L s') i = nx (L s) i := by
        rw [hL]
        exact nx_glue _ _ hu _ _ (by rw [L_length]; exact hge.2) (by rw [L_length]; exact hi) h1 h2 hto
      have ht := tkAt_eq hL hge.2 hn hto
      have h1' : (nx (L s') i).2.2.2 = 0 := by rw [hn]; exact h1
      have h2' : (nx (L s') i).1 ≠ 0 := by rw [hn]; exact h2
      cases pre with
      | nil =>
        simp at hl
        obtain ⟨r', f', h6⟩ := chain_ex s' (s'.size - (nx (L s) i).2.2.1 + 1) (nx (L s') i).2.2.1 b (by rw [hn]; omega) (by rw [hn]; omega)
        refine ⟨r', f', ?_⟩
        rw [hl.1, ← ht]
        exact .tok h1' h2' h6
      | cons a pre =>
        simp at hl
        obtain ⟨r', f', h6⟩ := chain_glue hu hL hk pre (i := (nx (L s) i).2.2.1) (b := b) (r := r) (f := f) h5.2 (by rw [hl.2]; exact h3)
        refine ⟨r', f', ?_⟩
        rw [hl.1, ← ht]
        exact .tok h1' h2' (by rw [hn]; exact h6)
termination_by pre => pre.length
end Go.Proofs.YtacfbgfphkfobaaGreatDoor.Id
/-! ## PaNx -/
namespace Go.Proofs.YtacfbgfphkfobaaGreatDoor.Id
open Go
set_option linter.unusedVariables false
set_option linter.unusedSimpArgs false
theorem tok_code (l : List UInt8) : (tok l).2.2 = 0 ∨ (tok l).2.2 = 120 ∨ (tok l).2.2 = 121 ∨ (tok l).2.2 = 122 ∨ (tok l).2.2 = 123 := by
  cases l with
  | nil => exact .inr (.inl rfl)
  | cons c r =>
    show (tokC c r).2.2 = 0 ∨ _
    change (tokC c r).2.2 = 0 ∨ (tokC c r).2.2 = 120 ∨ (tokC c r).2.2 = 121 ∨ (tokC c r).2.2 = 122 ∨ (tokC c r).2.2 = 123
    unfold tokC
    repeat' split
    all_goals simp
theorem nx_code (l : List UInt8) (i : Nat) : (nx l i).2.2.2 = 0 ∨ (nx l i).2.2.2 = 120 ∨ (nx l i).2.2.2 = 121 ∨ (nx l i).2.2.2 = 122 ∨ (nx l i).2.2.2 = 123 := by
  unfold nx
  split
  · exact .inl rfl
  · split
    · exact .inl rfl
    · exact tok_code _
theorem chain_code {s : ByteArray} {i b : Nat} {l : List Tk} {f : Nat × Nat} (h : Chain s i b l f) : (Endy l ∧ l ≠ []) ∨ f.1 = 120 ∨ f.1 = 121 ∨ f.1 = 122 ∨ f.1 = 123 ∨ f.1 = 142 := by
  induction h with
  | @bad i b h1 => have := nx_code (L s) i; simp only; omega
  | fin h1 h2 => exact .inl ⟨⟨[], _, rfl, h2⟩, by simp⟩
  | out h1 h2 => exact .inr (.inr (.inr (.inr (.inr rfl))))
  | tok h1 h2 h3 ih => exact ih.imp (fun ⟨⟨p, t, h6, h7⟩, _⟩ => ⟨⟨_ :: p, t, by rw [h6]; rfl, h7⟩, by simp⟩) id
/-- a token of kind 0 is the end; any other is what the text tells from some byte on -/
theorem chain_tk {s : ByteArray} {i b : Nat} {l : List Tk} {f : Nat × Nat} (h : Chain s i b l f) : i ≤ s.size → ∀ t ∈ l, (t.k = 0 → t.a = s.size) ∧ ∃ j, j ≤ s.size ∧ t = tkAt s j ∧ (nx (L s) j).2.2.2 = 0 := by
  induction h with
  | bad h1 => intro _ t ht; cases ht
  | out h1 h2 => intro _ t ht; cases ht
  | @fin i b f h1 h2 =>
    intro hi t ht
    rw [List.mem_singleton] at ht
    subst ht
    exact ⟨fun _ => (nx_end (L s) i h1 h2).1.trans (L_length s), i, hi, rfl, h1⟩
  | @tok i b l f h1 h2 h3 ih =>
    intro hi t ht
    rcases List.mem_cons.1 ht with rfl | ht
    · exact ⟨fun h => absurd h h2, i, hi, rfl, h1⟩
    · exact ih (tkAt_to s i hi h1).2 t ht
/-- a token's own start -/
theorem chain_start {s : ByteArray} {i b : Nat} {l : List Tk} {f : Nat × Nat} (h : Chain s i b l f) (hi : i ≤ s.size) {t : Tk} (ht : t ∈ l) (hk : t.k ≠ 0) : nx (L s) t.a = (t.k, t.a, t.a + t.s.size, 0) := by
  obtain ⟨_, j, hj, rfl, he⟩ := chain_tk h hi t ht
  have h1 := tkAt_to s j hj he
  have : nx (L s) (tkAt s j).a = nx (L s) j := nx_start (L s) j he hk
  rw [this, h1.1]
  have : (nx (L s) j) = ((nx (L s) j).1, (nx (L s) j).2.1, (nx (L s) j).2.2.1, (nx (L s) j).2.2.2) := rfl
  rw [this, he]
  rfl
end Go.Proofs.YtacfbgfphkfobaaGreatDoor.Id
/-! ## PaFirst -/
namespace Go.Proofs.YtacfbgfphkfobaaGreatDoor.Id
open Go
set_option linter.unusedVariables false
set_option linter.unusedSimpArgs false
variable {X : Given}
theorem runL_cut {α : Type} {p : Gr α} {l r : List Tk} {t : Tk} {c : Nat} (h : runL p l = .err c (t :: r)) : ∃ pre, l = pre ++ t :: r ∧ ∀ r', runL p (pre ++ t :: r') = .err c (t :: r') := by
  cases l with
  | nil => cases h
  | cons z y =>
    obtain ⟨pre, h1, h2⟩ := runG_cut (p := p) (l := z :: y) h
    refine ⟨pre, h1, fun r' => ?_⟩
    have h3 := h2 r'
    cases pre with
    | nil => exact h3
    | cons a pre => exact h3
/-- a source that goes on otherwise behind the token that was refused -/
theorem mod_cut (hX : LibX X) {s s' : ByteArray} {u : List UInt8} {F : Int} {l r : List Tk} {f : Nat × Nat} {t : Tk} {c : Nat} (hs' : s'.size ≤ 65536) (hF : F ≤ 9223372036854775807) (hc : Chain s 0 F.toNat l f) (hr : runL (pEnd (pModule bigN)) l = .err c (t :: r)) (hk : t.k ≠ 0) (hu : Blank u) (hL : L s' = (L s).take (t.a + t.s.size) ++ u) :
    Does (OrX X) 11 [vS s', vI F] [] (.ret (.tuple [.agg (mD md0), .agg [cZ (c : Nat), cZ (t.a : Nat)]]) []) := by
  obtain ⟨pre, rfl, h2⟩ := runL_cut hr
  obtain ⟨r', f', hc'⟩ := chain_glue hu hL hk pre (Nat.zero_le _) hc
  obtain ⟨g, m, h3, h4⟩ := module_does hX hs' hF hc'
  rw [h2 r'] at h3
  obtain ⟨_, rfl, t', r2, h5, rfl⟩ := h3
  cases h5
  exact h4
end Go.Proofs.YtacfbgfphkfobaaGreatDoor.Id
/-! ## PaFuel -/
namespace Go.Proofs.YtacfbgfphkfobaaGreatDoor.Id
open Go
set_option linter.unusedVariables false
set_option linter.unusedSimpArgs false
/-- a whole gap, and then any other text -/
theorem gap_glue (x : List UInt8) (hx : Blank x) : ∀ (l : List UInt8) (st : Bool), (gapL st l < l.length ∨ st = false ∧ gapL st l = l.length ∧ False) → gapL st (l.take (gapL st l) ++ x) = gapL st l + gapL false x
  | [], st, h => by rcases h with h | ⟨_, _, h⟩; exact absurd h (Nat.not_lt_zero _); exact h.elim
  | c :: r, true, h => by
    have h : gapL true (c :: r) < (c :: r).length := h.resolve_right fun ⟨_, _, h⟩ => h
    simp only [List.length_cons] at h
    by_cases h1 : isNl c = true
    · have e : gapL true (c :: r) = gapL false r + 1 := by rw [gapL, if_pos h1]; omega
      rw [e] at h ⊢
      rw [List.take_succ_cons, List.cons_append, gapL, if_pos h1, gap_glue x hx r false (.inl (by omega))]
      omega
    · have e : gapL true (c :: r) = gapL true r + 1 := by rw [gapL, if_neg h1]; omega
      rw [e] at h ⊢
      rw [List.take_succ_cons, List.cons_append, gapL, if_neg h1, gap_glue x hx r true (.inl (by omega))]
      omega
  | c :: r, false, h => by
    have h : gapL false (c :: r) < (c :: r).length := h.resolve_right fun ⟨_, _, h⟩ => h
    simp only [List.length_cons] at h
    by_cases h1 : isSp c = true
    · have e : gapL false (c :: r) = gapL false r + 1 := by rw [gapL, if_pos h1]; omega
      rw [e] at h ⊢
      rw [List.take_succ_cons, List.cons_append, gapL, if_pos h1, gap_glue x hx r false (.inl (by omega))]
      omega
    · by_cases h2 : (isSl c && headSl r) = true
      · have e : gapL false (c :: r) = gapL true r + 1 := by rw [gapL, if_neg h1, if_pos h2]; omega
        rw [e] at h ⊢
        have h3 : (isSl c && headSl (r.take (gapL true r) ++ x)) = true := by
          rw [Bool.and_eq_true] at h2 ⊢
          refine ⟨h2.1, ?_⟩
          cases r with
          | nil => exact absurd h2.2 (by decide)
          | cons d r =>
            have : ∃ m, gapL true (d :: r) = m + 1 := by
              rw [gapL]; split <;> exact ⟨_, Nat.add_comm _ _⟩
            obtain ⟨m, hm⟩ := this
            rw [hm, List.take_succ_cons]; exact h2.2
        rw [List.take_succ_cons, List.cons_append, gapL, if_neg h1, if_pos h3, gap_glue x hx r true (.inl (by omega))]
        omega
      · have e : gapL false (c :: r) = 0 := by rw [gapL, if_neg h1, if_neg h2]
        rw [e]; simp
theorem chain_fge {s : ByteArray} {i b : Nat} {l : List Tk} {f : Nat × Nat} (h : Chain s i b l f) : i ≤ s.size → (Endy l ∧ l ≠ []) ∨ (i ≤ f.2 ∧ f.2 ≤ s.size) := by
  induction h with
  | @bad i b h1 =>
    intro hi
    have h3 := nx_fr (L s) i
    have h4 := nx_from (L s) i (by rw [L_length]; exact hi)
    rw [L_length] at h4
    exact .inr ⟨by simp only; omega, h4⟩
  | fin h1 h2 => exact fun _ => .inl ⟨⟨[], _, rfl, h2⟩, by simp⟩
  | @out i h1 h2 =>
    intro hi
    have h3 := nx_fr (L s) i
    have h4 := nx_from (L s) i (by rw [L_length]; exact hi)
    rw [L_length] at h4
    exact .inr ⟨by simp only; omega, h4⟩
  | @tok i b l f h1 h2 h3 ih =>
    intro hi
    have hadv := nx_adv (L s) i (by rw [L_length]; exact hi) h1 h2
    rw [L_length] at hadv
    rcases ih (tkAt_to s i hi h1).2 with ⟨⟨p, t, h6, h7⟩, _⟩ | h
    · exact .inl ⟨⟨_ :: p, t, by rw [h6]; rfl, h7⟩, by simp⟩
    · exact .inr ⟨by omega, h.2⟩
/-- a source whose fuel ran out, that goes on otherwise from there -/
theorem chain_out {s s' : ByteArray} {u : List UInt8} {a i b : Nat} {l : List Tk} {f : Nat × Nat} (hu : Blank u) (h : Chain s i b l f) : i ≤ s.size → f = (142, a) → ¬ (Endy l ∧ l ≠ []) → L s' = (L s).take a ++ u → (nx (L s') a).2.2.2 = 0 → (nx (L s') a).1 ≠ 0 → Chain s' i b l (142, (nx (L s') a).2.1) := by
  induction h with
  | @bad i b h1 =>
    intro hi hf
    have := nx_code (L s) i
    simp only [Prod.mk.injEq] at hf
    omega
  | fin h1 h2 => exact fun _ _ hn => absurd ⟨⟨[], _, rfl, h2⟩, by simp⟩ hn
  | @out i h1 h2 =>
    intro hi hf hn hL he hk
    simp only [Prod.mk.injEq, true_and] at hf
    have h3 := nx_fr (L s) i
    have hadv := nx_adv (L s) i (by rw [L_length]; exact hi) h1 h2
    have hlen : (L s).length = s.size := L_length s
    have hg : gapL false ((L s).drop i) < ((L s).drop i).length := by rw [List.length_drop]; omega
    have e1 : (L s').drop i = ((L s).drop i).take (gapL false ((L s).drop i)) ++ u := by
      rw [hL, List.drop_append_of_le_length (by rw [List.length_take]; omega), List.drop_take]
      congr 2; omega
    have e2 : (L s').drop a = u := by
      rw [hL, List.drop_append_of_le_length (by rw [List.length_take]; omega), List.drop_eq_nil_of_le (by rw [List.length_take]; omega)]; rfl
    have e3 : i + gapL false ((L s').drop i) = a + gapL false ((L s').drop a) := by
      rw [e1, e2, gap_glue u hu _ false (.inl hg)]; omega
    have e4 : nx (L s') i = nx (L s') a := by unfold nx; rw [e3]
    have := Chain.out (s := s') (i := i) (by rw [e4]; exact he) (by rw [e4]; exact hk)
    rw [e4] at this
    exact this
  | @tok i b l f h1 h2 h3 ih =>
    intro hi hf hn hL he hk
    have h5 := tkAt_to s i hi h1
    have hn' : ¬ (Endy l ∧ l ≠ []) := fun ⟨⟨p, t, h6, h7⟩, _⟩ => hn ⟨⟨_ :: p, t, by rw [h6]; rfl, h7⟩, by simp⟩
    have hge := (chain_fge h3 h5.2).resolve_left hn'
    rw [hf] at hge
    have hnx : nx (L s') i = nx (L s) i := by
      rw [hL]
      exact nx_glue _ _ hu _ _ (by rw [L_length]; exact hge.2) (by rw [L_length]; exact hi) h1 h2 hge.1
    have ht := tkAt_eq hL hge.2 hnx hge.1
    rw [← ht]
    refine .tok (by rw [hnx]; exact h1) (by rw [hnx]; exact h2) ?_
    rw [hnx]
    exact ih h5.2 hf hn' hL he hk
theorem Endy_not_more {α : Type} {p : Gr α} (hp : Gd p) {l : List Tk} (h : runL p l = .more) : ¬ (Endy l ∧ l ≠ []) := by
  rintro ⟨h1, h2⟩
  cases l with
  | nil => exact h2 rfl
  | cons t r =>
    have := hp t r
    rw [show runG p (t :: r) = .more from h] at this
    exact this h1
/-- ParseFirst's second case -/
theorem mod_out {X : Given} (hX : LibX X) {s s' : ByteArray} {u : List UInt8} {F : Int} {l : List Tk} {f : Nat × Nat} {a : Nat} (hs' : s'.size ≤ 65536) (hF : F ≤ 9223372036854775807) (hc : Chain s 0 F.toNat l f) (hf : f = (142, a)) (hr : runL (pEnd (pModule bigN)) l = .more) (hu : Blank u) (hL : L s' = (L s).take a ++ u) (he : (nx (L s') a).2.2.2 = 0) (hk : (nx (L s') a).1 ≠ 0) :
    Does (OrX X) 11 [vS s', vI F] [] (.ret (.tuple [.agg (mD md0), .agg [cZ 142, cZ ((nx (L s') a).2.1 : Nat)]]) []) := by
  have hc' := chain_out hu hc (Nat.zero_le _) hf (Endy_not_more (gd_end gd_module) hr) hL he hk
  obtain ⟨g, m, h3, h4⟩ := module_does hX hs' hF hc'
  rw [hr] at h3
  obtain ⟨rfl, _, rfl⟩ := h3
  exact h4
end Go.Proofs.YtacfbgfphkfobaaGreatDoor.Id
/-! ## PaAwake -/
namespace Go.Proofs.YtacfbgfphkfobaaGreatDoor.Id
open Go
set_option linter.unusedVariables false
set_option linter.unusedSimpArgs false
def awS : ByteArray := mkB [99, 111, 110, 115, 116, 32, 99, 32, 61, 32, 49, 32, 43, 32, 50, 59]
def awT : ByteArray := mkB [99, 111, 110, 115, 116, 32, 99, 32, 61, 32, 49, 32, 43, 59]
theorem Chain.tok' {s : ByteArray} {i b j : Nat} {l : List Tk} {f : Nat × Nat} (h1 : (nx (L s) i).2.2.2 = 0) (h2 : ((nx (L s) i).1.beq 0) = false) (e : (nx (L s) i).2.2.1 = j) (h : Chain s j b l f) : Chain s i (b + 1) (tkAt s i :: l) f :=
  .tok h1 (Nat.ne_of_beq_eq_false h2) (e ▸ h)
theorem aw_chain : Chain awS 0 9 [tkAt awS 0, tkAt awS 5, tkAt awS 7, tkAt awS 9, tkAt awS 11, tkAt awS 13, tkAt awS 15, tkAt awS 16] (0, 0) := by
  refine .tok' (s := awS) (i := 0) (j := 5) (by kernel_rfl) (by kernel_rfl) (by kernel_rfl) ?_
  refine .tok' (s := awS) (i := 5) (j := 7) (by kernel_rfl) (by kernel_rfl) (by kernel_rfl) ?_
  refine .tok' (s := awS) (i := 7) (j := 9) (by kernel_rfl) (by kernel_rfl) (by kernel_rfl) ?_
  refine .tok' (s := awS) (i := 9) (j := 11) (by kernel_rfl) (by kernel_rfl) (by kernel_rfl) ?_
  refine .tok' (s := awS) (i := 11) (j := 13) (by kernel_rfl) (by kernel_rfl) (by kernel_rfl) ?_
  refine .tok' (s := awS) (i := 13) (j := 15) (by kernel_rfl) (by kernel_rfl) (by kernel_rfl) ?_
  refine .tok' (s := awS) (i := 15) (j := 16) (by kernel_rfl) (by kernel_rfl) (by kernel_rfl) ?_
  exact .fin (s := awS) (i := 16) (by kernel_rfl) (by kernel_rfl)
theorem aw_run : (match runL (pEnd (pModule bigN)) [tkAt awS 0, tkAt awS 5, tkAt awS 7, tkAt awS 9, tkAt awS 11, tkAt awS 13, tkAt awS 15, tkAt awS 16] with | .ok m _ => (match m.cs with | [c] => decide (c.e.op = 9) | _ => false) | _ => false) = true := by
  kernel_rfl
theorem aw_chain2 : Chain awT 0 9 [tkAt awT 0, tkAt awT 5, tkAt awT 7, tkAt awT 9, tkAt awT 11, tkAt awT 13, tkAt awT 14] (0, 0) := by
  refine .tok' (s := awT) (i := 0) (j := 5) (by kernel_rfl) (by kernel_rfl) (by kernel_rfl) ?_
  refine .tok' (s := awT) (i := 5) (j := 7) (by kernel_rfl) (by kernel_rfl) (by kernel_rfl) ?_
  refine .tok' (s := awT) (i := 7) (j := 9) (by kernel_rfl) (by kernel_rfl) (by kernel_rfl) ?_
  refine .tok' (s := awT) (i := 9) (j := 11) (by kernel_rfl) (by kernel_rfl) (by kernel_rfl) ?_
  refine .tok' (s := awT) (i := 11) (j := 13) (by kernel_rfl) (by kernel_rfl) (by kernel_rfl) ?_
  refine .tok' (s := awT) (i := 13) (j := 14) (by kernel_rfl) (by kernel_rfl) (by kernel_rfl) ?_
  exact .fin (s := awT) (i := 14) (by kernel_rfl) (by kernel_rfl)
theorem aw_run2 : (match runL (pEnd (pModule bigN)) [tkAt awT 0, tkAt awT 5, tkAt awT 7, tkAt awT 9, tkAt awT 11, tkAt awT 13, tkAt awT 14] with | .err c (t :: _) => decide (c = 140) && decide (t.a = 13) | _ => false) = true := by
  kernel_rfl
/-- what the law's own two readings answer -/
theorem aw_mod {X : Given} (hX : LibX X) : ∃ m, (match m.cs with | [c] => decide (c.e.op = 9) | _ => false) = true ∧ Does (OrX X) 11 [vS awS, vI 9] [] (.ret (.tuple [.agg (mD m), .agg [cZ 0, cZ 0]]) []) := by
  obtain ⟨g, m, h1, h2⟩ := module_does hX (s := awS) (F := 9) (by decide) (by decide) aw_chain
  have hr := aw_run
  revert h1 hr
  generalize runL (pEnd (pModule bigN)) _ = z
  cases z with
  | ok m' r =>
    rintro ⟨rfl, rfl⟩ hr
    exact ⟨m, hr, h2⟩
  | more => rintro _ hr; cases hr
  | err c r => rintro _ hr; cases hr
  | out => rintro _ hr; cases hr
theorem aw_mod2 {X : Given} (hX : LibX X) : Does (OrX X) 11 [vS awT, vI 9] [] (.ret (.tuple [.agg (mD md0), .agg [cZ 140, cZ 13]]) []) := by
  obtain ⟨g, m, h1, h2⟩ := module_does hX (s := awT) (F := 9) (by decide) (by decide) aw_chain2
  have hr := aw_run2
  revert h1 hr
  generalize runL (pEnd (pModule bigN)) _ = z
  cases z with
  | ok m' r => rintro _ hr; cases hr
  | more => rintro _ hr; cases hr
  | err c r =>
    rintro ⟨_, rfl, t, r', rfl, rfl⟩ hr
    simp only [Bool.and_eq_true, decide_eq_true_eq] at hr
    obtain ⟨rfl, h3⟩ := hr
    rw [h3] at h2
    exact h2
  | out => rintro _ hr; cases hr
end Go.Proofs.YtacfbgfphkfobaaGreatDoor.Id
/-! ## PaAwakeB -/
namespace Go.Proofs.YtacfbgfphkfobaaGreatDoor.Id
open Go
set_option linter.unusedVariables false
set_option linter.unusedSimpArgs false
variable {X : Given}
theorem none_does : Does X 33 [] [] (.ret (.agg [cZ 0, cZ 0]) []) := by
  refine DoesQ.eq (DoesQ.of Tryz.func33 (by kernel_rfl) ?_)
  exact WP.leaf rfl
theorem awake_does (hX : LibX X) : Does (OrX X) 14 [] [] (.ret (vB true) []) := by
  obtain ⟨m, hm, h1⟩ := aw_mod hX
  obtain ⟨c, hc⟩ : ∃ c, m.cs = [c] := by
    cases h : m.cs with
    | nil => rw [h] at hm; cases hm
    | cons c r => cases r with
      | nil => exact ⟨c, rfl⟩
      | cons d r => rw [h] at hm; cases hm
  have hop : c.e.op = 9 := by rw [hc] at hm; exact of_decide_eq_true hm
  obtain ⟨ci, cc, cf⟩ := m
  have hc' : cc = [c] := hc
  subst hc'
  refine DoesQ.eq (DoesQ.of Tryz.func14 (by kernel_rfl) ?_)
  refine WP.use1 h1 ?_
  refine WP.use1 (aw_mod2 hX) ?_
  refine WP.asrt (by kernel_rfl) ?_
  refine WP.use1 none_does ?_
  repeat refine WP.iteT (by first | rfl | simp [hop]) ?_
  refine WP.idx (es := csD [c]) (j := 0) (cD c) (Int.le_refl _) rfl ?_
  repeat refine WP.iteT (by first | rfl | simp [hop]) ?_
  refine WP.asrt (by kernel_rfl) ?_
  exact WP.leaf (by simp [hop])
end Go.Proofs.YtacfbgfphkfobaaGreatDoor.Id
/-! ## PaRightA -/
namespace Go.Proofs.YtacfbgfphkfobaaGreatDoor.Id
open Go
set_option linter.unusedVariables false
set_option linter.unusedSimpArgs false
variable {X : Given}
abbrev vD (v : TVal) : List D := [cZ v.t, cZ v.i, .bool v.b, .str v.s]
def litOk (v : TVal) : Bool :=
  if v.t = 1 then decide (0 ≤ v.i) && (!v.b && decide (v.s = .empty))
  else if v.t = 2 then decide (v.i = 0) && decide (v.s = .empty)
  else if v.t = 3 then decide (v.i = 0) && (!v.b && decide (v.s.size ≤ 4096))
  else false
theorem bytes_empty : ({ data := #[] } : ByteArray) = ByteArray.empty := rfl
theorem value_does (v : TVal) : Does X 83 [.agg (vD v)] [] (.ret (vB (litOk v)) []) := by
  refine DoesQ.eq (DoesQ.of Tryz.func83 (by kernel_rfl) ?_)
  repeat' first | refine WP.iteT (by assumption) ?_ | refine WP.iteF (by assumption) ?_ | refine WP.ite (fun _ => ?_) (fun _ => ?_) | refine WP.asrt (by kernel_rfl) ?_ | refine WP.leaf ?_
  all_goals
    refine congrArg (fun b => Out.ret (vB b) []) ?_
    unfold litOk
    simp_all [bytes_empty]
    try omega
theorem literal_does (v : TVal) : Does X 86 [.agg (vD v)] [] (.ret (vB (litOk v)) []) := by
  refine DoesQ.eq (DoesQ.of Tryz.func86 (by kernel_rfl) ?_)
  repeat' first | refine WP.iteT (by assumption) ?_ | refine WP.iteF (by assumption) ?_ | refine WP.ite (fun _ => ?_) (fun _ => ?_) | refine WP.asrt (by kernel_rfl) ?_ | refine WP.leaf ?_
  all_goals
    refine congrArg (fun b => Out.ret (vB b) []) ?_
    unfold litOk
    simp_all [bytes_empty]
    try omega
def namedOk (of nm : ByteArray) : Bool := isWord nm && (decide (of = .empty) || isWord of)
def bareOk (of nm : ByteArray) : Bool := decide (of = .empty) && decide (nm = .empty)
def noVal (v : TVal) : Bool := decide (v.t = 0) && (decide (v.i = 0) && (!v.b && decide (v.s = .empty)))
def rightN (k : Int) (of nm : ByteArray) (v : TVal) (op : Int) (n : Nat) : Bool :=
  if k = 1 then litOk v && (bareOk of nm && (decide (op = 0) && decide (n = 0)))
  else if k = 2 then namedOk of nm && (noVal v && (decide (op = 0) && decide (n = 0)))
  else if k = 3 then namedOk of nm && (noVal v && decide (op = 0))
  else if k = 4 then bareOk of nm && (noVal v && (decide (15 ≤ op) && (decide (op ≤ 17) && decide (n = 1))))
  else if k = 5 then bareOk of nm && (noVal v && (decide (1 ≤ op) && (decide (op ≤ 14) && decide (n = 2))))
  else false
mutual
def rightE : TExpr → Bool
  | .mk k a of nm v op kids => rightEs kids && rightN k of nm v op kids.length
def rightEs : List TExpr → Bool
  | [] => true
  | e :: r => rightE e && rightEs r
end
mutual
def smE : TExpr → Prop
  | .mk k a of nm v op kids => of.size ≤ 1048576 ∧ nm.size ≤ 1048576 ∧ kids.length ≤ 1000000000 ∧ smEs kids
def smEs : List TExpr → Prop
  | [] => True
  | e :: r => smE e ∧ smEs r
end
theorem rightEs_app : ∀ a b : List TExpr, rightEs (a ++ b) = (rightEs a && rightEs b)
  | [], b => by simp [rightEs]
  | x :: r, b => by rw [List.cons_append, rightEs, rightEs, rightEs_app r b, Bool.and_assoc]
theorem smEs_mem : ∀ {l : List TExpr} {e : TExpr}, smEs l → e ∈ l → smE e
  | x :: r, e, h, he => by
    rcases List.mem_cons.1 he with rfl | he
    · exact h.1
    · exact smEs_mem h.2 he
theorem dsAll_get {l p r : List TExpr} {x : TExpr} (h : l = p ++ x :: r) : (dsAll l)[((p.length : Int)).toNat]? = some (eD x) := by
  subst h
  rw [dsAll_app, dsAll_cons]
  have : (dsAll p).length = p.length := dsAll_len p
  simp [this]
theorem right_loop (hX : LibX X) (e : TExpr) (hk : e.kids.length ≤ 1000000000) (hD : ∀ x ∈ e.kids, Does X 48 [.agg (eD x)] [] (.ret (vB (rightE x)) [])) (K : Ex → St → Id.T Out) (Q : Out → Prop)
    (hE : rightEs e.kids = true → WP X (K (.exit 0) ⟨[(1, .box 1 0)], [(1, eV e)]⟩) Q) (hR : rightEs e.kids = false → WP X (K .ret ⟨[(2, .lit false)], []⟩) Q) :
    ∀ (r p : List TExpr), e.kids = p ++ r → rightEs p = true → ∀ σ : St, getT σ.t 1 = .box 1 0 → getT σ.t 9 = .d (.sl 10 (dsAll e.kids)) → getT σ.t 10 = vI (dsAll e.kids).length → getT σ.t 11 = vI p.length → getB σ.b 1 = some (eV e) → WP X (.loop (lp Tryz.f48 0) σ K) Q
  | r, p, h, hp, σ, g1, g9, g10, g11, gb => by
    refine WP.round ⟨[(1, .box 1 0), (9, .d (.sl 10 (dsAll e.kids))), (10, vI (dsAll e.kids).length), (11, vI p.length)], [(1, eV e)]⟩ ⟨⟨.inl g1.symm, .inl g9.symm, .inl g10.symm, .inl g11.symm, trivial⟩, ⟨WkB.box gb, trivial⟩⟩ ?_
    have hlen : e.kids.length = p.length + r.length := by rw [h]; simp
    cases r with
    | nil =>
      refine WP.iteF (by rw [dsAll_len]; simp at hlen; simp; omega) ?_
      refine WP.leaf ⟨⟨[(1, .box 1 0)], [(1, eV e)]⟩, ⟨⟨.inl rfl, trivial⟩, ⟨WkB.box rfl, trivial⟩⟩, hE (by rw [h]; simpa using hp)⟩
    | cons y r =>
      simp only [List.length_cons] at hlen
      refine WP.iteT (by rw [dsAll_len]; simp; omega) ?_
      refine WP.idx _ (by omega) (dsAll_get h) ?_
      refine WP.use1 (hD y (by rw [h]; simp)) ?_
      refine WP.ite (fun hx => ?_) (fun hx => ?_)
      · refine WP.leaf ⟨⟨[(2, .lit false)], []⟩, ⟨⟨.inl rfl, trivial⟩, trivial⟩, hR ?_⟩
        rw [h, rightEs_app, rightEs]
        simp at hx; simp [hx]
      · refine WP.leaf ?_
        refine right_loop hX e hk hD K Q hE hR r (p ++ [y]) (by rw [h]; simp) (by rw [rightEs_app, hp]; simp at hx; simp [rightEs, hx]) _ rfl rfl rfl ?_ rfl
        show vI (IntKind.i64.wrap ((p.length : Int) + 1)) = _
        rw [wrapI (by omega) (by omega)]; simp
set_option maxHeartbeats 4000000 in
theorem right_does (hX : LibX X) : ∀ (n : Nat) (e : TExpr), SizeOf.sizeOf e < n → smE e → Does X 48 [.agg (eD e)] [] (.ret (vB (rightE e)) [])
  | 0, e, h, _ => absurd h (Nat.not_lt_zero _)
  | n + 1, .mk k a of nm v op kids, hn, hs => by
    simp only [smE] at hs
    obtain ⟨h1, h2, h3, h4⟩ := hs
    refine DoesQ.eq (DoesQ.of Tryz.func48 (by kernel_rfl) ?_)
    refine right_loop hX (.mk k a of nm v op kids) h3 (fun x hx => right_does hX n x ?_ (smEs_mem h4 hx)) _ _ ?_ ?_ kids [] rfl rfl _ rfl rfl rfl rfl rfl
    · have := List.sizeOf_lt_of_mem hx
      simp only [TExpr.mk.sizeOf_spec] at hn
      have : (TExpr.mk k a of nm v op kids).kids = kids := rfl
      simp_all; omega
    · intro hk
      have hw := lword hX nm h2
      have ho := lword hX of h1
      have hv := value_does (X := X) v
      have hk' : rightEs kids = true := hk
      have e1 := dsAll_len kids
      clear hk hn h1 h2 h3 h4
      dsimp only [eV, TExpr.k, TExpr.a, TExpr.of, TExpr.nm, TExpr.v, TExpr.op, TExpr.kids]
      rw [rightE, hk']
      refine WP.use1 hw ?_
      repeat' first | refine WP.iteT (by assumption) ?_ | refine WP.iteF (by assumption) ?_ | refine WP.ite (fun _ => ?_) (fun _ => ?_) | refine WP.leaf ?_ | refine WP.use1 hv ?_ | refine WP.use1 ho ?_ | refine WP.asrt (by kernel_rfl) ?_
      all_goals
        clear hw ho hv hX hk'
        refine congrArg (fun b => Out.ret (vB b) []) ?_
        unfold rightN namedOk bareOk noVal
        simp_all [bytes_empty]
        try omega
    · intro hk
      refine WP.leaf ?_
      have hk' : rightEs kids = false := hk
      rw [rightE, hk']; rfl
end Go.Proofs.YtacfbgfphkfobaaGreatDoor.Id
