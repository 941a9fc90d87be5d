/- For arguments of bulk at most 1,048,576 the law ParseNests answers true, and its arguments read behind the call as they read before.
   Conditions: the arguments (and the package variables that the reading takes) are together of bulk at most 1,048,576 ('Upto'); the listed package-level variables hold what the program's text lays (the card ties them). -/
import Derived.Test.YtacfbgfphkfobaaDoorBunParseNestsc
import Derived.Test.YtacfbgfphkfobaaDoorRows
import Derived.DataReads
import Derived.ChangeArms
import Derived.Test.YtacfbgfphkfobaaDoorProg
import Derived.Below
import Derived.RowKit
import Derived.Lib.LaidTab
import Derived.Lib.ItoaMem
import Derived.Test.YtacfbgfphkfobaaDoorWWords
import Derived.Lib.LaidU8
import Derived.Stop.LaidErr
import Derived.Shelf.Strconv.Itoa4
import Derived.Shelf.Strconv.ParseIntPublic10
import Derived.Deep.Draws
import Derived.Deep.AppendLies
import Derived.Maps.AppendAt
import Derived.OwnWalk
import Derived.Laws.BytesArg
import Derived.Laws.MakeOwn
import Derived.Laws.OwnMore
import Derived.Deep.OwnRows
import Derived.Tactics
import Derived.Lib.ConvBytes
import Derived.Laws.Slices
import Derived.WalkKit
import Derived.KernelRfl
import Derived.RowKit3
import Derived.Deep.LoopGhost
import Derived.Deep.QuietTactic
import Derived.BigQuiet
import Derived.WideLaws
import Derived.Deep.DeepCutAuto
import Derived.Deep.CutBlock
import Derived.Deep.RegionHeld3
import Derived.Laws.Rows
import Derived.Lib.AppendStr
import Derived.ArgAppend
import Derived.Laws.IdiomCopy
import Derived.OrdersHeld
import Derived.Laws.BitsLemmas
import Derived.Lib.ParseIntB
import Derived.Lib.ItoaNum
import Derived.Lib.SmallJoins
import Derived.Lib.Strings
import Derived.Lib.Slices
import Derived.Lib.Walk
import Derived.Lib.Bytealg
import Derived.Test.YtacfbgfphkfobaaDoorWLast
import Derived.Test.YtacfbgfphkfobaaDoorWMore
import Derived.ProofKit
import Derived.OpenShut
import Derived.ShutString
import Derived.SliceStrings
import Derived.Test.YtacfbgfphkfobaaDoorCards
import Derived.Test.YtacfbgfphkfobaaDoorTie
import Derived.ChangeOld
import Derived.SizedLaws
import Derived.Deep.DeepHandedRow
/-! ## PaRightB -/
namespace Go.Proofs.YtacfbgfphkfobaaDoor.Id
open Go
set_option linter.unusedVariables false
set_option linter.unusedSimpArgs false
variable {X : Given}
theorem tw_len_all (p : UInt8 → Bool) : ∀ l : List UInt8, (l.takeWhile p).length = l.length ↔ l.all p = true
  | [] => by simp
  | c :: r => by
    rw [List.takeWhile_cons, List.all_cons]
    have ih := tw_len_all p r
    by_cases h : p c = true
    · rw [if_pos h, List.length_cons, List.length_cons, h, Bool.true_and, ← ih]; omega
    · rw [if_neg h]; simp [h]
def nmOk : List UInt8 → Bool
  | [] => false
  | c :: r => decide ((c :: r).length ≤ 32) && (isL c && (c :: r).all isW)
theorem just_word (l : List UInt8) : just l 1 = (nmOk l && !decide (l ∈ keyTexts)) := by
  cases l with
  | nil => rfl
  | cons c r =>
    have hl := tw_len_all isW (c :: r)
    have hle := tw_le isW (c :: r)
    unfold just nmOk
    change (decide (c :: r ≠ []) && decide ((tokC c r).2.2 = 0) && decide ((tokC c r).1 = 1) && decide ((tokC c r).2.1 = (c :: r).length)) = ((decide ((c :: r).length ≤ 32) && (isL c && (c :: r).all isW)) && !decide (c :: r ∈ keyTexts))
    unfold tokC
    generalize ((c :: r).takeWhile isW).length = n at *
    by_cases h1 : isL c = true
    · rw [if_pos h1, h1]
      by_cases hn : n = (c :: r).length
      · have ha := hl.1 hn
        rw [ha]
        subst hn
        rw [List.take_length]
        by_cases h2 : 32 < (c :: r).length
        · rw [if_pos h2]
          rw [decide_eq_false (show ¬ (c :: r).length ≤ 32 by omega)]
          simp
        · rw [if_neg h2]
          have : (c :: r).length ≤ 32 := by omega
          by_cases h3 : c :: r ∈ keyTexts
          · rw [if_pos h3]; simp [h3]
          · rw [if_neg h3]; simp at this; simp [h3, this]
      · have ha : (c :: r).all isW = false := by
          cases h : (c :: r).all isW with
          | false => rfl
          | true => exact absurd (hl.2 h) hn
        rw [ha]
        split
        · simp
        · split
          · simp
          · simp at hn; simp [hn]
    · rw [if_neg h1]
      have : isL c = false := by simpa using h1
      rw [this]
      repeat' split
      all_goals simp
theorem name_loop (s : ByteArray) (hs : s.size ≤ 1048576) (K : Ex → St → T Out) (Q : Out → Prop) : ∀ (r : List UInt8) (i : Nat), (L s).drop i = r →
    (r.all isW = true → WP X (K (.exit 0) ⟨[], []⟩) Q) → (r.all isW = false → WP X (K .ret ⟨[(2, .lit false)], []⟩) Q) → ∀ σ : St, getT σ.t 0 = vS s → getT σ.t 3 = vI i →
    WP X (.loop (lp Tryd.f49 0) σ K) Q
  | r, i, h, hE, hR, σ, g0, g3 => by
    refine WP.round ⟨[(0, vS s), (3, vI i)], []⟩ ⟨⟨.inl g0.symm, .inl g3.symm, trivial⟩, trivial⟩ ?_
    cases r with
    | nil =>
      have h1 := drop_none h; rw [L_length] at h1
      refine WP.iteF (by simp; omega) ?_
      exact WP.leaf ⟨⟨[], []⟩, ⟨trivial, trivial⟩, hE rfl⟩
    | cons c r =>
      obtain ⟨hb, hi⟩ := bt_drop h
      have hgo : isW c = true → ∀ σ : St, getT σ.t 0 = vS s → getT σ.t 3 = vI (IntKind.i64.wrap ((i : Int) + 1)) → WP X (.loop (lp Tryd.f49 0) σ K) Q := fun hw σ e0 e3 => by
        refine name_loop s hs K Q r (i + 1) (drop_some h).2.2 ?_ ?_ σ e0 ?_
        · intro ha; exact hE (by rw [List.all_cons, hw, ha]; rfl)
        · intro ha; exact hR (by rw [List.all_cons, hw, ha]; rfl)
        · rw [e3, wrapI (by omega) (by omega)]; rfl
      refine WP.iteT (by simp; omega) ?_
      refine WP.asrt (by omega) ?_
      refine WP.use1 (by rw [hb]; exact rletter c) ?_
      by_cases h1 : isL c = true
      · refine WP.iteF (by simp [h1]) ?_
        exact WP.leaf (hgo (by unfold isW; rw [h1]; rfl) _ rfl rfl)
      refine WP.iteT (by simp [h1]) ?_
      refine WP.asrt (by omega) ?_
      refine WP.use1 (by rw [hb]; exact rdigit c) ?_
      by_cases h2 : isD c = true
      · refine WP.iteF (by simp [h2]) ?_
        exact WP.leaf (hgo (by unfold isW; rw [h2]; simp) _ rfl rfl)
      · refine WP.iteT (by simp [h2]) ?_
        refine WP.leaf ⟨⟨[(2, .lit false)], []⟩, ⟨⟨.inl rfl, trivial⟩, trivial⟩, hR ?_⟩
        rw [List.all_cons]; unfold isW; simp [h1, h2]
theorem rname (s : ByteArray) (hs : s.size ≤ 1048576) : Does X 49 [vS s] [] (.ret (vB (nmOk (L s))) []) := by
  refine DoesQ.eq (DoesQ.of Tryd.func49 (by kernel_rfl) ?_)
  have hz := L_length s
  cases hl : L s with
  | nil =>
    rw [hl] at hz
    have hz0 : s.size = 0 := hz.symm
    refine WP.iteT (decide_eq_true (by omega)) ?_
    exact WP.leaf rfl
  | cons c r =>
    obtain ⟨hb, hi⟩ := bt_drop (s := s) (i := 0) (c := c) (r := r) (by rw [hl]; rfl)
    rw [hl] at hz
    have hp : 0 < (c :: r).length := by simp
    refine WP.iteF (decide_eq_false (by omega)) ?_
    rw [show nmOk (c :: r) = (decide ((c :: r).length ≤ 32) && (isL c && (c :: r).all isW)) from rfl]
    by_cases h32 : (c :: r).length ≤ 32
    · refine WP.iteF (decide_eq_false (by omega)) ?_
      refine WP.asrt (by omega) ?_
      refine WP.use1 (by rw [show bt s 0 = _ from hb]; exact rletter c) ?_
      by_cases h1 : isL c = true
      · refine WP.iteF (by simp [h1]) ?_
        refine name_loop s hs _ _ (c :: r) 0 (by rw [hl]; rfl) ?_ ?_ _ rfl rfl
        · intro ha; exact WP.leaf (by rw [decide_eq_true h32, h1, ha]; rfl)
        · intro ha; exact WP.leaf (by rw [decide_eq_true h32, h1, ha]; rfl)
      · refine WP.iteT (by simp [h1]) ?_
        exact WP.leaf (by simp [h1])
    · refine WP.iteT (decide_eq_true (by omega)) ?_
      exact WP.leaf (by rw [decide_eq_false h32]; rfl)
theorem rword (s : ByteArray) (hs : s.size ≤ 1048576) : Does X 26 [vS s] [] (.ret (vB (isWord s)) []) := by
  refine DoesQ.eq (DoesQ.of Tryd.func26 (by kernel_rfl) ?_)
  refine WP.use1 (rname s hs) ?_
  unfold isWord
  rw [just_word]
  refine WP.ite (fun h => ?_) (fun h => ?_)
  · refine WP.use1 (rkey s) ?_
    exact WP.leaf (by rw [h]; rfl)
  · exact WP.leaf (by rw [h]; rfl)
theorem rright_loop (hX : LibX X) (e : TExpr) (hk : e.kids.length ≤ 1000000000) (hD : ∀ x ∈ e.kids, Does X 14 [.agg (eD x)] [] (.ret (vB (rightE x)) [])) (K : Ex → St → Id.T Out) (Q : Out → Prop)
    (hE : rightEs e.kids = true → WP X (K (.exit 0) ⟨[(1, .box 1 0)], [(1, eV e)]⟩) Q) (hR : rightEs e.kids = false → WP X (K .ret ⟨[(2, .lit false)], []⟩) Q) :
    ∀ (r p : List TExpr), e.kids = p ++ r → rightEs p = true → ∀ σ : St, getT σ.t 1 = .box 1 0 → getT σ.t 3 = vI p.length → getB σ.b 1 = some (eV e) → WP X (.loop (lp Tryd.f14 0) σ K) Q
  | r, p, h, hp, σ, g1, g3, gb => by
    refine WP.round ⟨[(1, .box 1 0), (3, vI p.length)], [(1, eV e)]⟩ ⟨⟨.inl g1.symm, .inl g3.symm, trivial⟩, ⟨WkB.box gb, trivial⟩⟩ ?_
    have hlen : e.kids.length = p.length + r.length := by rw [h]; simp
    cases r with
    | nil =>
      refine WP.iteF (by rw [dsAll_len]; simp at hlen; simp; omega) ?_
      refine WP.leaf ⟨⟨[(1, .box 1 0)], [(1, eV e)]⟩, ⟨⟨.inl rfl, trivial⟩, ⟨WkB.box rfl, trivial⟩⟩, hE (by rw [h]; simpa using hp)⟩
    | cons y r =>
      simp only [List.length_cons] at hlen
      refine WP.iteT (by rw [dsAll_len]; simp; omega) ?_
      refine WP.idx _ (by omega) (dsAll_get h) ?_
      refine WP.use1 (hD y (by rw [h]; simp)) ?_
      refine WP.ite (fun hx => ?_) (fun hx => ?_)
      · refine WP.leaf ⟨⟨[(2, .lit false)], []⟩, ⟨⟨.inl rfl, trivial⟩, trivial⟩, hR ?_⟩
        rw [h, rightEs_app, rightEs]
        simp at hx; simp [hx]
      · refine WP.leaf ?_
        refine rright_loop hX e hk hD K Q hE hR r (p ++ [y]) (by rw [h]; simp) (by rw [rightEs_app, hp]; simp at hx; simp [rightEs, hx]) _ rfl ?_ rfl
        show vI (IntKind.i64.wrap ((p.length : Int) + 1)) = _
        rw [wrapI (by omega) (by omega)]; simp
set_option maxHeartbeats 4000000 in
theorem rright_does (hX : LibX X) : ∀ (n : Nat) (e : TExpr), SizeOf.sizeOf e < n → smE e → Does X 14 [.agg (eD e)] [] (.ret (vB (rightE e)) [])
  | 0, e, h, _ => absurd h (Nat.not_lt_zero _)
  | n + 1, .mk k a of nm v op kids, hn, hs => by
    simp only [smE] at hs
    obtain ⟨h1, h2, h3, h4⟩ := hs
    refine DoesQ.eq (DoesQ.of Tryd.func14 (by kernel_rfl) ?_)
    refine rright_loop hX (.mk k a of nm v op kids) h3 (fun x hx => rright_does hX n x ?_ (smEs_mem h4 hx)) _ _ ?_ ?_ kids [] rfl rfl _ rfl rfl rfl
    · have := List.sizeOf_lt_of_mem hx
      simp only [TExpr.mk.sizeOf_spec] at hn
      have : (TExpr.mk k a of nm v op kids).kids = kids := rfl
      simp_all; omega
    · intro hk
      have hw := rword (X := X) nm h2
      have ho := rword (X := X) of h1
      have hv := literal_does (X := X) v
      have hk' : rightEs kids = true := hk
      have e1 := dsAll_len kids
      clear hk hn h1 h2 h3 h4
      dsimp only [eV, TExpr.k, TExpr.a, TExpr.of, TExpr.nm, TExpr.v, TExpr.op, TExpr.kids]
      rw [rightE, hk']
      refine WP.use1 hw ?_
      repeat' first | refine WP.iteT (by assumption) ?_ | refine WP.iteF (by assumption) ?_ | refine WP.ite (fun _ => ?_) (fun _ => ?_) | refine WP.leaf ?_ | refine WP.use1 hv ?_ | refine WP.use1 ho ?_ | refine WP.asrt (by kernel_rfl) ?_
      all_goals
        clear hw ho hv hX hk'
        refine congrArg (fun b => Out.ret (vB b) []) ?_
        unfold rightN namedOk bareOk noVal
        simp_all [bytes_empty]
        all_goals first | omega | (rw [Bool.eq_iff_iff]; simp; omega)
    · intro hk
      refine WP.leaf ?_
      have hk' : rightEs kids = false := hk
      rw [rightE, hk']; rfl
end Go.Proofs.YtacfbgfphkfobaaDoor.Id
/-! ## PaRightD -/
namespace Go.Proofs.YtacfbgfphkfobaaDoor.Id
open Go
set_option linter.unusedVariables false
set_option linter.unusedSimpArgs false
variable {X : Given}
def noneN (k : Int) (of nm : ByteArray) (v : TVal) (op : Int) (n : Nat) : Bool := decide (k = 0) && (decide (of = .empty) && (decide (nm = .empty) && (noVal v && (decide (op = 0) && decide (n = 0)))))
def noneE (e : TExpr) : Bool := noneN e.k e.of e.nm e.v e.op e.kids.length
def rightSN (k : Int) (nm : ByteArray) (e : TExpr) (nb : Nat) (he : Bool) : Bool :=
  if k = 1 ∨ k = 2 then rightE e && (decide (nb = 0) && (!he && isWord nm))
  else if k = 3 then rightE e && decide (nm = .empty)
  else if k = 4 then rightE e && (decide (nm = .empty) && !he)
  else if k = 5 then (rightE e || noneE e) && (decide (nb = 0) && (!he && decide (nm = .empty)))
  else if k = 6 then rightE e && (decide (nb = 0) && (!he && decide (nm = .empty)))
  else if k = 7 then rightE e && (decide (nb = 0) && (!he && (decide (nm = .empty) && decide (e.k = 3))))
  else false
mutual
def rightS : TStmt → Bool
  | .mk k a nm e body els he => rightSs body && (rightSs els && ((he || decide (els.length = 0)) && rightSN k nm e body.length he))
def rightSs : List TStmt → Bool
  | [] => true
  | s :: r => rightS s && rightSs r
end
mutual
def smS : TStmt → Prop
  | .mk k a nm e body els he => nm.size ≤ 1048576 ∧ smE e ∧ body.length ≤ 1000000000 ∧ els.length ≤ 1000000000 ∧ smSs body ∧ smSs els
def smSs : List TStmt → Prop
  | [] => True
  | s :: r => smS s ∧ smSs r
end
theorem rightSs_app : ∀ a b : List TStmt, rightSs (a ++ b) = (rightSs a && rightSs b)
  | [], b => by simp [rightSs]
  | x :: r, b => by rw [List.cons_append, rightSs, rightSs, rightSs_app r b, Bool.and_assoc]
theorem smSs_mem : ∀ {l : List TStmt} {e : TStmt}, smSs l → e ∈ l → smS e
  | x :: r, e, h, he => by
    rcases List.mem_cons.1 he with rfl | he
    · exact h.1
    · exact smSs_mem h.2 he
theorem ssAll_get {l p r : List TStmt} {x : TStmt} (h : l = p ++ x :: r) : (ssAll l)[((p.length : Int)).toNat]? = some (sD x) := by
  subst h
  rw [ssAll_app, ssAll_cons]
  have : (ssAll p).length = p.length := ssAll_len p
  simp [this]
theorem nothing_does (e : TExpr) : Does X 63 [.agg (eD e)] [] (.ret (vB (noneE e)) []) := by
  obtain ⟨k, a, of, nm, v, op, kids⟩ := e
  have e1 := dsAll_len kids
  refine DoesQ.eq (DoesQ.of Tryd.func63 (by kernel_rfl) ?_)
  dsimp only [eD, TExpr.k, TExpr.a, TExpr.of, TExpr.nm, TExpr.v, TExpr.op, TExpr.kids]
  repeat' first | refine WP.iteT (by assumption) ?_ | refine WP.iteF (by assumption) ?_ | refine WP.ite (fun _ => ?_) (fun _ => ?_) | refine WP.leaf ?_ | refine WP.asrt (by kernel_rfl) ?_
  all_goals
    refine congrArg (fun b => Out.ret (vB b) []) ?_
    change _ = noneN k of nm v op kids.length
    unfold noneN noVal
    simp_all [bytes_empty]
theorem block_chk_loop (l : List TStmt) (hk : l.length ≤ 1000000000) (hD : ∀ x ∈ l, Does X 50 [.agg (sD x)] [] (.ret (vB (rightS x)) [])) (K : Ex → St → Id.T Out) (Q : Out → Prop)
    (hE : rightSs l = true → WP X (K (.exit 0) ⟨[], []⟩) Q) (hR : rightSs l = false → WP X (K .ret ⟨[(2, .lit false)], []⟩) Q) :
    ∀ (r p : List TStmt), l = p ++ r → rightSs p = true → ∀ σ : St, getT σ.t 5 = .d (.sl 16 (ssAll l)) → getT σ.t 6 = vI (ssAll l).length → getT σ.t 7 = vI p.length → WP X (.loop (lp Tryd.f28 0) σ K) Q
  | r, p, h, hp, σ, g5, g6, g7 => by
    refine WP.round ⟨[(5, .d (.sl 16 (ssAll l))), (6, vI (ssAll l).length), (7, vI p.length)], []⟩ ⟨⟨.inl g5.symm, .inl g6.symm, .inl g7.symm, trivial⟩, trivial⟩ ?_
    have hlen : l.length = p.length + r.length := by rw [h]; simp
    cases r with
    | nil =>
      refine WP.iteF (by rw [ssAll_len]; simp at hlen; simp; omega) ?_
      refine WP.leaf ⟨⟨[], []⟩, ⟨trivial, trivial⟩, hE (by rw [h]; simpa using hp)⟩
    | cons y r =>
      simp only [List.length_cons] at hlen
      refine WP.iteT (by rw [ssAll_len]; simp; omega) ?_
      refine WP.idx _ (by omega) (ssAll_get h) ?_
      refine WP.use1 (hD y (by rw [h]; simp)) ?_
      refine WP.ite (fun hx => ?_) (fun hx => ?_)
      · refine WP.leaf ⟨⟨[(2, .lit false)], []⟩, ⟨⟨.inl rfl, trivial⟩, trivial⟩, hR ?_⟩
        rw [h, rightSs_app, rightSs]
        simp at hx; simp [hx]
      · refine WP.leaf ?_
        refine block_chk_loop l hk hD K Q hE hR r (p ++ [y]) (by rw [h]; simp) (by rw [rightSs_app, hp]; simp at hx; simp [rightSs, hx]) _ rfl rfl ?_
        show vI (IntKind.i64.wrap ((p.length : Int) + 1)) = _
        rw [wrapI (by omega) (by omega)]; simp
theorem block_chk (l : List TStmt) (hk : l.length ≤ 1000000000) (hD : ∀ x ∈ l, Does X 50 [.agg (sD x)] [] (.ret (vB (rightS x)) [])) : Does X 28 [.d (.sl 16 (ssAll l))] [] (.ret (vB (rightSs l)) []) := by
  refine DoesQ.eq (DoesQ.of Tryd.func28 (by kernel_rfl) ?_)
  refine block_chk_loop l hk hD _ _ ?_ ?_ l [] rfl rfl _ rfl rfl rfl
  · intro h; exact WP.leaf (by rw [h])
  · intro h; exact WP.leaf (by rw [h])
set_option maxHeartbeats 4000000 in
theorem stmt_chk (hX : LibX X) : ∀ (n : Nat) (s : TStmt), SizeOf.sizeOf s < n → smS s → Does X 50 [.agg (sD s)] [] (.ret (vB (rightS s)) [])
  | 0, e, h, _ => absurd h (Nat.not_lt_zero _)
  | n + 1, .mk k a nm e body els he, hn, hs => by
    simp only [smS] at hs
    obtain ⟨h1, h2, h3, h4, h5, h6⟩ := hs
    simp only [TStmt.mk.sizeOf_spec] at hn
    have hb := block_chk (X := X) body h3 (fun x hx => stmt_chk hX n x (by have := List.sizeOf_lt_of_mem hx; omega) (smSs_mem h5 hx))
    have hl := block_chk (X := X) els h4 (fun x hx => stmt_chk hX n x (by have := List.sizeOf_lt_of_mem hx; omega) (smSs_mem h6 hx))
    have hw := lword hX nm h1
    have hr := right_does hX (SizeOf.sizeOf e + 1) e (Nat.lt_succ_self _) h2
    have hN := nothing_does (X := X) e
    have e1 := ssAll_len body
    have e2 := ssAll_len els
    refine DoesQ.eq (DoesQ.of Tryd.func50 (by kernel_rfl) ?_)
    clear hn h1 h2 h3 h4 h5 h6
    dsimp only [sD, TStmt.k, TStmt.a, TStmt.nm, TStmt.e, TStmt.body, TStmt.els, TStmt.he]
    rw [rightS]
    refine WP.use1 hb ?_
    repeat' first | refine WP.iteT (by assumption) ?_ | refine WP.iteF (by assumption) ?_ | refine WP.ite (fun _ => ?_) (fun _ => ?_) | refine WP.leaf ?_ | refine WP.use1 hl ?_ | refine WP.use1 hr ?_ | refine WP.use1 hw ?_ | refine WP.use1 hN ?_ | refine WP.asrt (by kernel_rfl) ?_
    all_goals
      clear hw hb hl hr hN hX
      refine congrArg (fun b => Out.ret (vB b) []) ?_
      unfold rightSN
      simp_all [bytes_empty]
      try (intro h; subst h; contradiction)
end Go.Proofs.YtacfbgfphkfobaaDoor.Id
/-! ## PaRightF -/
namespace Go.Proofs.YtacfbgfphkfobaaDoor.Id
open Go
set_option linter.unusedVariables false
set_option linter.unusedSimpArgs false
variable {X : Given}
def rightI (x : TIncl) : Bool := decide (x.p.size ≤ 4096) && isWord x.nm
def rightC (c : TCons) : Bool := isWord c.nm && rightE c.e
def rightP (p : TParam) : Bool := isWord p.nm && (decide (1 ≤ p.t) && decide (p.t ≤ 3))
def rightF (f : TFunc) : Bool := isWord f.nm && (decide (0 ≤ f.res) && (decide (f.res ≤ 3) && (rightSs f.body && f.ps.all rightP)))
def rightM (m : TMod) : Bool := m.is.all rightI && (m.cs.all rightC && m.fs.all rightF)
structure SmF (f : TFunc) : Prop where
  nm : f.nm.size ≤ 1048576
  np : f.ps.length ≤ 1000000000
  ps : ∀ p ∈ f.ps, p.nm.size ≤ 1048576
  nb : f.body.length ≤ 1000000000
  body : smSs f.body
structure SmM (m : TMod) : Prop where
  ni : m.is.length ≤ 1000000000
  nc : m.cs.length ≤ 1000000000
  nf : m.fs.length ≤ 1000000000
  is : ∀ x ∈ m.is, x.nm.size ≤ 1048576
  cs : ∀ c ∈ m.cs, c.nm.size ≤ 1048576 ∧ smE c.e
  fs : ∀ f ∈ m.fs, SmF f
theorem map_get {α : Type} (F : α → List D) {l p r : List α} {x : α} (h : l = p ++ x :: r) : (l.map F)[((p.length : Int)).toNat]? = some (F x) := by
  subst h; simp
theorem all_app {α : Type} (f : α → Bool) (a b : List α) : (a ++ b).all f = (a.all f && b.all f) := by simp
abbrev mV (m : TMod) : List V := [.d (.sl 3 (isD' m.is)), .d (.sl 13 (csD m.cs)), .d (.sl 6 (fsD m.fs))]
theorem rI_loop (hX : LibX X) (l : List TIncl) (hk : l.length ≤ 1000000000) (hD : ∀ x ∈ l, x.nm.size ≤ 1048576) (m : TMod) (K : Ex → St → Id.T Out) (Q : Out → Prop)
    (hE : l.all rightI = true → WP X (K (.exit 0) ⟨[(1, .box 1 0)], [(1, mV m)]⟩) Q) (hR : l.all rightI = false → WP X (K .ret ⟨[(2, .lit false)], []⟩) Q) :
    ∀ (r p : List TIncl), l = p ++ r → p.all rightI = true → ∀ σ : St, getT σ.t 1 = .box 1 0 → getB σ.b 1 = some (mV m) → getT σ.t 12 = .d (.sl 3 (isD' l)) → getT σ.t 13 = vI (isD' l).length → getT σ.t 14 = vI p.length → WP X (.loop (lp Tryd.f16 0) σ K) Q
  | r, p, h, hp, σ, g1, gb, g5, g6, g7 => by
    refine WP.round ⟨[(1, .box 1 0), (12, .d (.sl 3 (isD' l))), (13, vI (isD' l).length), (14, vI p.length)], [(1, mV m)]⟩ ⟨⟨.inl g1.symm, .inl g5.symm, .inl g6.symm, .inl g7.symm, trivial⟩, ⟨WkB.box gb, trivial⟩⟩ ?_
    have hlen : l.length = p.length + r.length := by rw [h]; simp
    cases r with
    | nil =>
      refine WP.iteF (by simp at hlen; simp; omega) ?_
      refine WP.leaf ⟨⟨[(1, .box 1 0)], [(1, mV m)]⟩, ⟨⟨.inl rfl, trivial⟩, ⟨WkB.box rfl, trivial⟩⟩, hE (by rw [h]; simpa using hp)⟩
    | cons y r =>
      simp only [List.length_cons] at hlen
      have hw := lword hX y.nm (hD y (by rw [h]; simp))
      refine WP.iteT (by simp; omega) ?_
      refine WP.idx _ (by omega) (map_get iD h) ?_
      have hgo : rightI y = true → ∀ σ : St, getT σ.t 1 = .box 1 0 → getB σ.b 1 = some (mV m) → getT σ.t 12 = .d (.sl 3 (isD' l)) → getT σ.t 13 = vI (isD' l).length → getT σ.t 14 = vI (IntKind.i64.wrap ((p.length : Int) + 1)) → WP X (.loop (lp Tryd.f16 0) σ K) Q := fun hy σ e1 eb e12 e13 e14 => by
        refine rI_loop hX l hk hD m K Q hE hR r (p ++ [y]) (by rw [h]; simp) (by rw [all_app, hp]; simp [hy]) σ e1 eb e12 e13 ?_
        rw [e14, wrapI (by omega) (by omega)]; simp
      have hno : rightI y = false → WP X (K .ret ⟨[(2, .lit false)], []⟩) Q := fun hy => hR (by rw [h, all_app]; simp [hy])
      refine WP.dec (fun h1 => ?_) (fun h1 => ?_)
      · exact WP.leaf ⟨⟨[(2, .lit false)], []⟩, ⟨⟨.inl rfl, trivial⟩, trivial⟩, hno (by unfold rightI; rw [decide_eq_false (by omega)]; rfl)⟩
      · refine WP.use1 hw ?_
        refine WP.ite (fun h2 => ?_) (fun h2 => ?_)
        · exact WP.leaf ⟨⟨[(2, .lit false)], []⟩, ⟨⟨.inl rfl, trivial⟩, trivial⟩, hno (by unfold rightI; simp at h2; simp [h2])⟩
        · exact WP.leaf (hgo (by unfold rightI; rw [decide_eq_true (by omega)]; simpa using h2) _ rfl rfl rfl rfl rfl)
theorem rC_loop (hX : LibX X) (l : List TCons) (hk : l.length ≤ 1000000000) (hD : ∀ c ∈ l, c.nm.size ≤ 1048576 ∧ smE c.e) (m : TMod) (K : Ex → St → Id.T Out) (Q : Out → Prop)
    (hE : l.all rightC = true → WP X (K (.exit 2) ⟨[(1, .box 1 0)], [(1, mV m)]⟩) Q) (hR : l.all rightC = false → WP X (K .ret ⟨[(2, .lit false)], []⟩) Q) :
    ∀ (r p : List TCons), l = p ++ r → p.all rightC = true → ∀ σ : St, getT σ.t 1 = .box 1 0 → getB σ.b 1 = some (mV m) → getT σ.t 30 = .d (.sl 13 (csD l)) → getT σ.t 31 = vI (csD l).length → getT σ.t 32 = vI p.length → WP X (.loop (lp Tryd.f16 1) σ K) Q
  | r, p, h, hp, σ, g1, gb, g5, g6, g7 => by
    refine WP.round ⟨[(1, .box 1 0), (30, .d (.sl 13 (csD l))), (31, vI (csD l).length), (32, vI p.length)], [(1, mV m)]⟩ ⟨⟨.inl g1.symm, .inl g5.symm, .inl g6.symm, .inl g7.symm, trivial⟩, ⟨WkB.box gb, trivial⟩⟩ ?_
    have hlen : l.length = p.length + r.length := by rw [h]; simp
    cases r with
    | nil =>
      refine WP.iteF (by simp at hlen; simp; omega) ?_
      refine WP.leaf ⟨⟨[(1, .box 1 0)], [(1, mV m)]⟩, ⟨⟨.inl rfl, trivial⟩, ⟨WkB.box rfl, trivial⟩⟩, hE (by rw [h]; simpa using hp)⟩
    | cons y r =>
      simp only [List.length_cons] at hlen
      have hy := hD y (by rw [h]; simp)
      have hw := lword hX y.nm hy.1
      have hr := right_does hX (SizeOf.sizeOf y.e + 1) y.e (Nat.lt_succ_self _) hy.2
      refine WP.iteT (by simp; omega) ?_
      refine WP.idx _ (by omega) (map_get cD h) ?_
      have hgo : rightC y = true → ∀ σ : St, getT σ.t 1 = .box 1 0 → getB σ.b 1 = some (mV m) → getT σ.t 30 = .d (.sl 13 (csD l)) → getT σ.t 31 = vI (csD l).length → getT σ.t 32 = vI (IntKind.i64.wrap ((p.length : Int) + 1)) → WP X (.loop (lp Tryd.f16 1) σ K) Q := fun hy σ e1 eb e12 e13 e14 => by
        refine rC_loop hX l hk hD m K Q hE hR r (p ++ [y]) (by rw [h]; simp) (by rw [all_app, hp]; simp [hy]) σ e1 eb e12 e13 ?_
        rw [e14, wrapI (by omega) (by omega)]; simp
      have hno : rightC y = false → WP X (K .ret ⟨[(2, .lit false)], []⟩) Q := fun hy => hR (by rw [h, all_app]; simp [hy])
      refine WP.use1 hw ?_
      refine WP.ite (fun h1 => ?_) (fun h1 => ?_)
      · exact WP.leaf ⟨⟨[(2, .lit false)], []⟩, ⟨⟨.inl rfl, trivial⟩, trivial⟩, hno (by unfold rightC; simp at h1; simp [h1])⟩
      · refine WP.use1 hr ?_
        refine WP.ite (fun h2 => ?_) (fun h2 => ?_)
        · exact WP.leaf ⟨⟨[(2, .lit false)], []⟩, ⟨⟨.inl rfl, trivial⟩, trivial⟩, hno (by unfold rightC; simp at h2; simp [h2])⟩
        · exact WP.leaf (hgo (by unfold rightC; simp at h1 h2; simp [h1, h2]) _ rfl rfl rfl rfl rfl)
theorem rP_loop {β : Type} (hX : LibX X) (l : List TParam) (hk : l.length ≤ 1000000000) (hD : ∀ p ∈ l, p.nm.size ≤ 1048576) (z48 : List (List D)) (n49 n50 : Int) (K : Ex → St → Id.T β) (Q : β → Prop)
    (hE : l.all rightP = true → WP X (K (.exit 6) ⟨[(48, .d (.sl 6 z48)), (49, vI n49), (50, vI n50)], []⟩) Q) (hR : l.all rightP = false → WP X (K .ret ⟨[(2, .lit false)], []⟩) Q) :
    ∀ (r p : List TParam), l = p ++ r → p.all rightP = true → ∀ σ : St, getT σ.t 48 = .d (.sl 6 z48) → getT σ.t 49 = vI n49 → getT σ.t 50 = vI n50 → getT σ.t 75 = .d (.sl 2 (psD l)) → getT σ.t 76 = vI (psD l).length → getT σ.t 77 = vI p.length → WP X (.loop (lp Tryd.f16 3) σ K) Q
  | r, p, h, hp, σ, g1, g2, g3, g5, g6, g7 => by
    refine WP.round ⟨[(48, .d (.sl 6 z48)), (49, vI n49), (50, vI n50), (75, .d (.sl 2 (psD l))), (76, vI (psD l).length), (77, vI p.length)], []⟩ ⟨⟨.inl g1.symm, .inl g2.symm, .inl g3.symm, .inl g5.symm, .inl g6.symm, .inl g7.symm, trivial⟩, trivial⟩ ?_
    have hlen : l.length = p.length + r.length := by rw [h]; simp
    cases r with
    | nil =>
      refine WP.iteF (by simp at hlen; simp; omega) ?_
      refine WP.leaf ⟨⟨[(48, .d (.sl 6 z48)), (49, vI n49), (50, vI n50)], []⟩, ⟨⟨.inl rfl, .inl rfl, .inl rfl, trivial⟩, trivial⟩, hE (by rw [h]; simpa using hp)⟩
    | cons y r =>
      simp only [List.length_cons] at hlen
      have hw := lword hX y.nm (hD y (by rw [h]; simp))
      refine WP.iteT (by simp; omega) ?_
      refine WP.idx _ (by omega) (map_get pD h) ?_
      have hgo : rightP y = true → ∀ σ : St, getT σ.t 48 = .d (.sl 6 z48) → getT σ.t 49 = vI n49 → getT σ.t 50 = vI n50 → getT σ.t 75 = .d (.sl 2 (psD l)) → getT σ.t 76 = vI (psD l).length → getT σ.t 77 = vI (IntKind.i64.wrap ((p.length : Int) + 1)) → WP X (.loop (lp Tryd.f16 3) σ K) Q := fun hy σ e1 e2 e3 e12 e13 e14 => by
        refine rP_loop hX l hk hD z48 n49 n50 K Q hE hR r (p ++ [y]) (by rw [h]; simp) (by rw [all_app, hp]; simp [hy]) σ e1 e2 e3 e12 e13 ?_
        rw [e14, wrapI (by omega) (by omega)]; simp
      have hno : rightP y = false → WP X (K .ret ⟨[(2, .lit false)], []⟩) Q := fun hy => hR (by rw [h, all_app]; simp [hy])
      refine WP.use1 hw ?_
      repeat' first | refine WP.iteT (by assumption) ?_ | refine WP.iteF (by assumption) ?_ | refine WP.ite (fun _ => ?_) (fun _ => ?_) | refine WP.leaf ?_
      all_goals first
        | exact ⟨⟨[(2, .lit false)], []⟩, ⟨⟨.inl rfl, trivial⟩, trivial⟩, hno (by unfold rightP; simp_all <;> omega)⟩
        | exact hgo (by unfold rightP; simp_all <;> omega) _ rfl rfl rfl rfl rfl rfl
theorem rF_loop (hX : LibX X) (l : List TFunc) (hk : l.length ≤ 1000000000) (hD : ∀ f ∈ l, SmF f) (K : Ex → St → Id.T Out) (Q : Out → Prop)
    (hE : l.all rightF = true → WP X (K (.exit 4) ⟨[], []⟩) Q) (hR : l.all rightF = false → WP X (K .ret ⟨[(2, .lit false)], []⟩) Q) :
    ∀ (r p : List TFunc), l = p ++ r → p.all rightF = true → ∀ σ : St, getT σ.t 48 = .d (.sl 6 (fsD l)) → getT σ.t 49 = vI (fsD l).length → getT σ.t 50 = vI p.length → WP X (.loop (lp Tryd.f16 2) σ K) Q
  | r, p, h, hp, σ, g5, g6, g7 => by
    refine WP.round ⟨[(48, .d (.sl 6 (fsD l))), (49, vI (fsD l).length), (50, vI p.length)], []⟩ ⟨⟨.inl g5.symm, .inl g6.symm, .inl g7.symm, trivial⟩, trivial⟩ ?_
    have hlen : l.length = p.length + r.length := by rw [h]; simp
    cases r with
    | nil =>
      refine WP.iteF (by simp at hlen; simp; omega) ?_
      refine WP.leaf ⟨⟨[], []⟩, ⟨trivial, trivial⟩, hE (by rw [h]; simpa using hp)⟩
    | cons y r =>
      simp only [List.length_cons] at hlen
      have hy := hD y (by rw [h]; simp)
      have hw := lword hX y.nm hy.nm
      have hb := block_chk (X := X) y.body hy.nb (fun x hx => stmt_chk hX (SizeOf.sizeOf x + 1) x (Nat.lt_succ_self _) (smSs_mem hy.body hx))
      refine WP.iteT (by simp; omega) ?_
      refine WP.idx _ (by omega) (map_get fD h) ?_
      have hno : rightF y = false → WP X (K .ret ⟨[(2, .lit false)], []⟩) Q := fun hy => hR (by rw [h, all_app]; simp [hy])
      refine WP.use1 hw ?_
      repeat' first | refine WP.iteT (by assumption) ?_ | refine WP.iteF (by assumption) ?_ | refine WP.ite (fun _ => ?_) (fun _ => ?_) | refine WP.leaf ?_ | refine WP.use1 hb ?_
      all_goals first
        | exact ⟨⟨[(2, .lit false)], []⟩, ⟨⟨.inl rfl, trivial⟩, trivial⟩, hno (by unfold rightF; simp_all <;> omega)⟩
        | skip
      refine rP_loop hX y.ps hy.np hy.ps (fsD l) (fsD l).length p.length _ _ ?_ ?_ y.ps [] rfl rfl _ rfl rfl rfl rfl rfl rfl
      · intro ha
        refine WP.leaf ?_
        refine rF_loop hX l hk hD K Q hE hR r (p ++ [y]) (by rw [h]; simp) (by rw [all_app, hp]; unfold rightF; simp_all) _ rfl rfl ?_
        show vI (IntKind.i64.wrap ((p.length : Int) + 1)) = _
        rw [wrapI (by omega) (by omega)]; simp
      · intro ha
        exact WP.leaf ⟨⟨[(2, .lit false)], []⟩, ⟨⟨.inl rfl, trivial⟩, trivial⟩, hno (by unfold rightF; simp_all)⟩
theorem right_mod (hX : LibX X) (m : TMod) (hm : SmM m) : Does X 16 [.agg (mD m)] [] (.ret (vB (rightM m)) []) := by
  refine DoesQ.eq (DoesQ.of Tryd.func16 (by kernel_rfl) ?_)
  unfold rightM
  refine rI_loop hX m.is hm.ni hm.is m _ _ ?_ ?_ m.is [] rfl rfl _ rfl rfl rfl rfl rfl
  · intro h1
    refine rC_loop hX m.cs hm.nc hm.cs m _ _ ?_ ?_ m.cs [] rfl rfl _ rfl rfl rfl rfl rfl
    · intro h2
      refine rF_loop hX m.fs hm.nf hm.fs _ _ ?_ ?_ m.fs [] rfl rfl _ rfl rfl rfl
      · intro h3; exact WP.leaf (by rw [h1, h2, h3]; rfl)
      · intro h3; exact WP.leaf (by rw [h1, h2, h3]; rfl)
    · intro h2; exact WP.leaf (by rw [h1, h2]; rfl)
  · intro h1; exact WP.leaf (by rw [h1]; rfl)
end Go.Proofs.YtacfbgfphkfobaaDoor.Id
/-! ## PaTold -/
namespace Go.Proofs.YtacfbgfphkfobaaDoor.Id
open Go
set_option linter.unusedVariables false
set_option linter.unusedSimpArgs false
def GoodTk (t : Tk) : Prop := t.k ≠ 0 → tok (L t.s) = (t.k, t.s.size, 0)
/-- of what is told on good tokens this holds -/
def Ok {α : Type} (Q : α → Prop) (p : Gr α) : Prop := ∀ l, (∀ t ∈ l, GoodTk t) → ∀ x r, runG p l = .ok x r → Q x ∧ ∀ t ∈ r, GoodTk t
section
variable {α β : Type} {Q : α → Prop} {R : β → Prop}
theorem Ok.ret {x : α} (h : Q x) : Ok Q (.ret x) := fun l hl y r e => by cases e; exact ⟨h, hl⟩
theorem Ok.err (e : Nat) : Ok Q (.err e) := fun l hl y r h => by cases h
theorem Ok.out : Ok Q .out := fun l hl y r h => by cases h
theorem Ok.look {f : Tk → Gr α} (h : ∀ t, GoodTk t → Ok Q (f t)) : Ok Q (.look f) := fun l hl y r e => by
  cases l with
  | nil => cases e
  | cons t l => exact h t (hl t (by simp)) (t :: l) hl y r e
theorem Ok.next {g : Gr α} (h : Ok Q g) : Ok Q (.next g) := fun l hl y r e => by
  match l with
  | [] => cases e
  | [t] => cases e
  | t :: u :: l => exact h (u :: l) (fun x hx => hl x (by simp at hx ⊢; exact .inr hx)) y r e
theorem Ok.bind {p : Gr α} {f : α → Gr β} (h : Ok Q p) (k : ∀ x, Q x → Ok R (f x)) : Ok R (p.bind f) := fun l hl y r e => by
  rw [runG_bind] at e
  cases hp : runG p l with
  | ok x l' =>
    rw [hp] at e
    obtain ⟨h1, h2⟩ := h l hl x l' hp
    exact k x h1 l' h2 y r e
  | more => rw [hp] at e; cases e
  | err c l' => rw [hp] at e; cases e
  | out => rw [hp] at e; cases e
theorem Ok.bool {b : Bool} {p q : Gr α} : (b = true → Ok Q p) → (b = false → Ok Q q) → Ok Q (match b with | true => p | false => q) := fun h1 h2 => by
  cases b
  · exact h2 rfl
  · exact h1 rfl
theorem Ok.bool' {b : Bool} {p q : Gr α} : (b = true → Ok Q p) → (b = false → Ok Q q) → Ok Q (match b with | false => q | true => p) := fun h1 h2 => by
  cases b
  · exact h2 rfl
  · exact h1 rfl
theorem Ok.mono {p : Gr α} {Q' : α → Prop} (h : Ok Q p) (k : ∀ x, Q x → Q' x) : Ok Q' p := fun l hl x r e => ⟨k x (h l hl x r e).1, (h l hl x r e).2⟩
end
abbrev Tr {α : Type} (_ : α) : Prop := True
theorem ok_must (x : ByteArray) : Ok Tr (gMust x) := .look fun t _ => .bool (fun _ => .next (.ret trivial)) (fun _ => .err _)
theorem ok_open (x : ByteArray) (d : Nat) : Ok Tr (gOpen x d) := .look fun t _ => .bool (fun _ => .bool (fun _ => .err _) (fun _ => .next (.ret trivial))) (fun _ => .err _)
theorem ok_is (x : ByteArray) : Ok Tr (gIs x) := .look fun t _ => .ret trivial
theorem ok_sep (n : Nat) : Ok Tr (gSep n) := .bool (fun _ => .bind (ok_must _) fun _ _ => .ret trivial) (fun _ => .ret trivial)
theorem ok_of (k : Nat) : Ok (fun _ => True) (gOf k) := .look fun t _ => .bool (fun _ => .next (.ret trivial)) (fun _ => .err _)
theorem ok_word : Ok (fun w => isWord w.1 = true) (gOf 1) := .look fun t ht => .bool (fun hk => .next (.ret (just_of (by
  have hk : t.k = 1 := of_decide_eq_true hk
  have := ht (by omega)
  rw [hk] at this; exact this)))) (fun _ => .err _)
theorem word_size {s : ByteArray} (h : isWord s = true) : s.size ≤ 32 := by
  unfold isWord at h
  rw [just_word, Bool.and_eq_true] at h
  have := h.1
  have hz := L_length s
  revert this
  cases hl : L s with
  | nil => intro h; cases h
  | cons c r =>
    rw [hl] at hz
    intro h
    have h2 : (decide ((c :: r).length ≤ 32) && (isL c && (c :: r).all isW)) = true := h
    rw [Bool.and_eq_true, decide_eq_true_eq] at h2
    omega
/-! ### expressions -/
structure TE (e : TExpr) : Prop where
  r : rightE e = true
  s : smE e
abbrev TEs (l : List TExpr) : Prop := ∀ e ∈ l, TE e
theorem TEs.r : ∀ {l : List TExpr}, TEs l → rightEs l = true
  | [], _ => rfl
  | x :: r, h => by rw [rightEs, (h x (by simp)).r, TEs.r (l := r) fun e he => h e (by simp [he])]; rfl
theorem TEs.s {l : List TExpr} (h : TEs l) : ∀ {l : List TExpr}, TEs l → smEs l
  | [], _ => trivial
  | x :: r, h => ⟨(h x (by simp)).s, TEs.s (l := r) (fun e he => h e (by simp [he])) (fun e he => h e (by simp [he]))⟩
theorem op_range : ∀ k : Fin 5, ∀ s ∈ signs k.val, 1 ≤ opOf s ∧ opOf s ≤ 14 := by decide +kernel
theorem signs_le (k : Nat) : signs k = signs (min k 4) := by
  match k with
  | 0 => rfl
  | 1 => rfl
  | 2 => rfl
  | 3 => rfl
  | 4 => rfl
  | n + 5 => rfl
theorem isAny_mem {t : Tk} {xs : List ByteArray} (h : isAny t xs = true) : t.s ∈ xs := by
  unfold isAny at h
  simp at h
  exact h.2
theorem op_ok {t : Tk} {k : Nat} (h : isAny t (signs k) = true) : 1 ≤ opOf t.s ∧ opOf t.s ≤ 14 := by
  have h1 := isAny_mem h
  rw [signs_le] at h1
  exact op_range ⟨min k 4, by omega⟩ t.s h1
theorem te_bin {a : Nat} {s : ByteArray} {x y : TExpr} (h : 1 ≤ opOf s ∧ opOf s ≤ 14) (hx : TE x) (hy : TE y) : TE (bin a s x y) := by
  have hl : TEs [x, y] := fun e he => by
    rcases List.mem_cons.1 he with rfl | he
    · exact hx
    · rw [List.mem_singleton] at he; subst he; exact hy
  refine ⟨?_, by decide, by decide, by simp, hl.s hl⟩
  unfold bin
  rw [rightE, hl.r]
  simp [rightN, bareOk, noVal, val0, b0, h.1, h.2, bytes_empty]
theorem te_una {a : Nat} {s : ByteArray} {x : TExpr} (hx : TE x) : TE (una a s x) := by
  have hl : TEs [x] := fun e he => by rw [List.mem_singleton] at he; subst he; exact hx
  refine ⟨?_, by decide, by decide, by simp, hl.s hl⟩
  have h : 15 ≤ unOp s ∧ unOp s ≤ 17 := by
    unfold unOp
    split
    · omega
    · split <;> omega
  unfold una
  rw [rightE, hl.r]
  simp [rightN, bareOk, noVal, val0, b0, h.1, h.2, bytes_empty]
theorem num_nonneg (s : ByteArray) : 0 ≤ numZ s := by
  unfold numZ numR
  split <;> simp
theorem txt_len (s : ByteArray) : (txtZ s).size ≤ 4096 := by
  unfold txtZ
  split
  · decide
  · split
    · split
      · decide
      · rename_i t n hq
        unfold quo at hq
        split at hq
        · cases hq
        · split at hq
          · cases hq
            split
            · show (mkB _).size ≤ 4096
              rw [← L_length, L_mkB]; assumption
            · decide
          · cases hq
    · decide
theorem te_lit {a : Nat} {v : TVal} (h : litOk v = true) : TE (.mk 1 a b0 b0 v 0 []) := by
  refine ⟨?_, by decide, by decide, by simp, trivial⟩
  rw [rightE]
  simp [rightN, rightEs, bareOk, b0, h, bytes_empty]
theorem te_name {a : Nat} {of nm : ByteArray} (h1 : of = b0 ∨ isWord of = true) (h2 : isWord nm = true) : TE (.mk 2 a of nm val0 0 []) := by
  refine ⟨?_, ?_, by have := word_size h2; omega, by simp, trivial⟩
  · rw [rightE]
    simp [rightN, rightEs, namedOk, noVal, val0, b0, h2, bytes_empty]
    exact h1
  · rcases h1 with rfl | h
    · decide
    · have := word_size h; omega
theorem te_call {a : Nat} {of nm : ByteArray} {l : List TExpr} (h1 : of = b0 ∨ isWord of = true) (h2 : isWord nm = true) (h3 : TEs l) (h4 : l.length ≤ 1000000000) : TE (.mk 3 a of nm val0 0 l) := by
  refine ⟨?_, ?_, by have := word_size h2; omega, h4, h3.s h3⟩
  · rw [rightE, h3.r]
    simp [rightN, namedOk, noVal, val0, b0, h2, bytes_empty]
    exact h1
  · rcases h1 with rfl | h
    · decide
    · have := word_size h; omega
abbrev OkE (n : Nat) : Prop := n ≤ 100000000 →
  (∀ k d, Ok TE (pLine n k d)) ∧ (∀ k d e, TE e → Ok TE (pTail n k d e)) ∧ (∀ d, Ok TE (pUnary n d)) ∧ (∀ d, Ok TE (pPrim n d)) ∧
  (∀ d (a : Nat) of nm, (of = b0 ∨ isWord of = true) → isWord nm = true → Ok TE (pName n d a of nm)) ∧ (∀ d, Ok (fun l => TEs l ∧ l.length ≤ n) (pArgs n d)) ∧ (∀ d l, TEs l → Ok (fun l' => TEs l' ∧ l'.length ≤ l.length + n) (pArgl n d l))
theorem ok_exprs : ∀ n, OkE n
  | 0 => fun _ => ⟨fun _ _ => .out, fun _ _ _ _ => .out, fun _ => .out, fun _ => .out, fun _ _ _ _ _ _ => .out, fun _ => .out, fun _ _ _ => .out⟩
  | n + 1 => fun hn => by
    obtain ⟨hL, hT, hU, hP, hN, hA, hG⟩ := ok_exprs n (by omega)
    refine ⟨fun k d => ?_, fun k d e he => ?_, fun d => ?_, fun d => ?_, fun d a of nm h1 h2 => ?_, fun d => ?_, fun d l hl => ?_⟩
    · rw [pLine]
      exact .bool (fun _ => hU d) (fun _ => .bind (hL _ _) fun e he => hT k d e he)
    · rw [pTail]
      exact .look fun t _ => .bool (fun ht => .next (.bind (hL _ _) fun e2 h2 => .bool (fun _ => .ret (te_bin (op_ok ht) he h2)) (fun _ => hT k d _ (te_bin (op_ok ht) he h2)))) (fun _ => .ret he)
    · rw [pUnary]
      exact .look fun t _ => .bool (fun ht => .bool (fun _ => .err _) (fun _ => .next (.bind (hU _) fun e he => .ret (te_una he)))) (fun _ => hP d)
    · rw [pPrim]
      refine .look fun t _ => .bool (fun h2 => .next (.ret (te_lit ?_))) fun _ => .bool (fun h3 => .next (.ret (te_lit ?_))) fun _ => .bool (fun h4 => .next (.ret (te_lit ?_))) fun _ => .bool (fun h5 => .bind (ok_open _ _) fun _ _ => .bind (hL _ _) fun e he => .bind (ok_must _) fun _ _ => .ret he) fun _ => .bind ok_word fun w hw => .bind (ok_is _) fun b _ => .bool (fun _ => .next (.bind ok_word fun w2 hw2 => hN d t.a w.1 w2.1 (.inr hw) hw2)) (fun _ => hN d t.a b0 w.1 (.inl rfl) hw)
      · simp [litOk, b0, bytes_empty, num_nonneg]
      · simp [litOk, b0, bytes_empty, txt_len]
      · simp [litOk, b0, bytes_empty]
    · rw [pName]
      exact .bind (ok_is _) fun b _ => .bool (fun _ => .bind (hA d) fun l hl => .ret (te_call h1 h2 hl.1 (by omega))) (fun _ => .ret (te_name h1 h2))
    · rw [pArgs]
      exact .bind (ok_open _ _) fun _ _ => (hG (d + 1) [] (fun e he => by cases he)).mono fun l h => ⟨h.1, by have := h.2; simp at this; omega⟩
    · rw [pArgl]
      exact .bind (ok_is _) fun b _ => .bool (fun _ => .next (.ret ⟨hl, by omega⟩)) (fun _ => .bind (ok_sep _) fun _ _ => .bind (hL _ _) fun e he => (hG d (l ++ [e]) (by
        intro x hx
        rcases List.mem_append.1 hx with h | h
        · exact hl x h
        · rw [List.mem_singleton] at h; subst h; exact he)).mono fun l' h => ⟨h.1, by have := h.2; simp at this; omega⟩)
/-! ### statements -/
structure TS (s : TStmt) : Prop where
  r : rightS s = true
  s : smS s
abbrev TSs (l : List TStmt) : Prop := ∀ s ∈ l, TS s
theorem TSs.r : ∀ {l : List TStmt}, TSs l → rightSs l = true
  | [], _ => rfl
  | x :: r, h => by rw [rightSs, (h x (by simp)).r, TSs.r (l := r) fun e he => h e (by simp [he])]; rfl
theorem TSs.s : ∀ {l : List TStmt}, TSs l → smSs l
  | [], _ => trivial
  | x :: r, h => ⟨(h x (by simp)).s, TSs.s (l := r) fun e he => h e (by simp [he])⟩
theorem ts_mk {k a : Int} {nm : ByteArray} {e : TExpr} {body els : List TStmt} {he : Bool} (h : rightSN k nm e body.length he = true) (h1 : nm = b0 ∨ isWord nm = true) (h2 : smE e) (h3 : TSs body) (h4 : TSs els) (h5 : body.length ≤ 1000000000) (h6 : els.length ≤ 1000000000) (h7 : he = true ∨ els = []) : TS (.mk k a nm e body els he) := by
  refine ⟨?_, ?_, h2, h5, h6, h3.s, h4.s⟩
  · rw [rightS, h3.r, h4.r, h]
    rcases h7 with rfl | rfl <;> simp
  · rcases h1 with rfl | h
    · decide
    · have := word_size h; omega
theorem sm_expr0 : smE expr0 := ⟨by decide, by decide, by decide, trivial⟩
/-- a statement without statements of its own -/
theorem ts_flat {k a : Int} {nm : ByteArray} {e : TExpr} (h : rightSN k nm e 0 false = true) (h1 : nm = b0 ∨ isWord nm = true) (h2 : smE e) : TS (.mk k a nm e [] [] false) :=
  ts_mk h h1 h2 (fun s hs => by cases hs) (fun s hs => by cases hs) (by simp) (by simp) (.inr rfl)
theorem ok_semi {s : TStmt} (h : TS s) : Ok TS (gSemi s) := .bind (ok_must _) fun _ _ => .ret h
abbrev NamedOk (x : Int × ByteArray × TExpr) : Prop := rightSN x.1 x.2.1 x.2.2 0 false = true ∧ (x.2.1 = b0 ∨ isWord x.2.1 = true) ∧ smE x.2.2
theorem do_ok {e : TExpr} (h : rightE e = true) (hk : e.k = 3) : rightSN 7 b0 e 0 false = true := by simp [rightSN, h, hk, b0, bytes_empty]
theorem ok_named {n : Nat} (hn : n ≤ 100000000) (d : Nat) : Ok NamedOk (pNamed n d) := by
  obtain ⟨hL, _, _, _, _, hA, _⟩ := ok_exprs n hn
  unfold pNamed
  refine .bind ok_word fun w hw => .bind (ok_is _) fun b _ => .bool (fun _ => .next (.bind (hL _ _) fun e he => .ret ⟨?_, .inr hw, he.s⟩)) fun _ => .bind (ok_is _) fun b _ => .bool (fun _ => .next (.bind ok_word fun w2 hw2 => .bind (hA d) fun l hl => ?_)) fun _ => .bind (hA d) fun l hl => ?_
  · simp [rightSN, he.r, hw]
  · have := te_call (a := w.2) (of := w.1) (nm := w2.1) (.inr hw) hw2 hl.1 (by omega)
    exact .ret ⟨do_ok this.r rfl, .inl rfl, this.s⟩
  · have := te_call (a := w.2) (of := b0) (nm := w.1) (.inl rfl) hw hl.1 (by omega)
    exact .ret ⟨do_ok this.r rfl, .inl rfl, this.s⟩
abbrev OkS (n : Nat) : Prop := n ≤ 100000000 →
  (∀ d, Ok (fun l => TSs l ∧ l.length ≤ n) (pBlock n d)) ∧ (∀ d l, TSs l → Ok (fun l' => TSs l' ∧ l'.length ≤ l.length + n) (pStmts n d l)) ∧ (∀ d, Ok TS (pStmt n d)) ∧ (∀ d, Ok TS (pBranch n d))
theorem ok_stmts : ∀ n, OkS n
  | 0 => fun _ => ⟨fun _ => .out, fun _ _ _ => .out, fun _ => .out, fun _ => .out⟩
  | n + 1 => fun hn => by
    obtain ⟨hB, hG, hS, hR⟩ := ok_stmts n (by omega)
    obtain ⟨hL, _, _, _, _, hA, _⟩ := ok_exprs n (by omega)
    refine ⟨fun d => ?_, fun d l hl => ?_, fun d => ?_, fun d => ?_⟩
    · rw [pBlock]
      exact .bind (ok_open _ _) fun _ _ => (hG (d + 1) [] (fun e he => by cases he)).mono fun l h => ⟨h.1, by have := h.2; simp at this; omega⟩
    · rw [pStmts]
      exact .bind (ok_is _) fun b _ => .bool (fun _ => .next (.ret ⟨hl, by omega⟩)) (fun _ => .bind (hS _) fun e he => (hG d (l ++ [e]) (by
        intro x hx
        rcases List.mem_append.1 hx with h | h
        · exact hl x h
        · rw [List.mem_singleton] at h; subst h; exact he)).mono fun l' h => ⟨h.1, by have := h.2; simp at this; omega⟩)
    · rw [pStmt]
      refine .look fun t _ => .bool (fun _ => .next (.bind ok_word fun w hw => .bind (ok_must _) fun _ _ => .bind (hL _ _) fun e he => ok_semi (ts_flat ?_ (.inr hw) he.s))) fun _ => .bool (fun _ => hR d) fun _ => .bool (fun _ => .next (.bind (hL _ _) fun e he => .bind (hB d) fun b hb => .ret (ts_mk ?_ (.inl rfl) he.s hb.1 (fun s hs => by cases hs) (by omega) (by simp) (.inr rfl)))) fun _ => .bool (fun _ => .next (.bind (ok_is _) fun b _ => .bool (fun _ => ok_semi (ts_flat ?_ (.inl rfl) sm_expr0)) (fun _ => .bind (hL _ _) fun e he => ok_semi (ts_flat ?_ (.inl rfl) he.s)))) fun _ => .bool (fun _ => .next (.bind (hL _ _) fun e he => ok_semi (ts_flat ?_ (.inl rfl) he.s))) fun _ => .bind (ok_named (by omega) d) fun x hx => ok_semi (ts_flat hx.1 hx.2.1 hx.2.2)
      · simp [rightSN, he.r, hw]
      · simp [rightSN, he.r, b0, bytes_empty]
      · decide +kernel
      · simp [rightSN, he.r, b0, bytes_empty]
      · simp [rightSN, he.r, b0, bytes_empty]
    · rw [pBranch]
      refine .bind (ok_must _) fun a _ => .bind (hL _ _) fun e he => .bind (hB d) fun b hb => .bind (ok_is _) fun c _ => .bool' (fun _ => .next (.bind (ok_is _) fun c _ => .bool (fun _ => .bind (hR d) fun s hs => .ret (ts_mk ?_ (.inl rfl) he.s hb.1 (fun x hx => by rw [List.mem_singleton] at hx; subst hx; exact hs) (by omega) (by simp) (.inl rfl))) (fun _ => .bind (hB d) fun l hl => .ret (ts_mk ?_ (.inl rfl) he.s hb.1 hl.1 (by omega) (by omega) (.inl rfl))))) fun _ => .ret (ts_mk ?_ (.inl rfl) he.s hb.1 (fun s hs => by cases hs) (by omega) (by simp) (.inr rfl))
      all_goals simp [rightSN, he.r, b0, bytes_empty]
/-! ### functions, modules -/
abbrev TPs (l : List TParam) : Prop := ∀ p ∈ l, rightP p = true
theorem ok_type : Ok (fun t : Int => 1 ≤ t ∧ t ≤ 3) pType := .look fun t _ => .bool (fun _ => .next (.ret (by
  split
  · omega
  · split <;> omega))) (fun _ => .err _)
theorem ok_param : Ok (fun p => rightP p = true) pParam := .bind ok_word fun w hw => .bind (ok_must _) fun _ _ => .bind ok_type fun t ht => .ret (by simp [rightP, hw, ht.1, ht.2])
theorem ok_params : ∀ (n : Nat) (l : List TParam), TPs l → Ok (fun l' => TPs l' ∧ l'.length ≤ l.length + n) (pParams n l)
  | 0, l, _ => .out
  | n + 1, l, hl => .bind (ok_is _) fun b _ => .bool (fun _ => .next (.ret ⟨hl, by omega⟩)) (fun _ => .bind (ok_sep _) fun _ _ => .bind ok_param fun e he => (ok_params n (l ++ [e]) (by
        intro x hx
        rcases List.mem_append.1 hx with h | h
        · exact hl x h
        · rw [List.mem_singleton] at h; subst h; exact he)).mono fun l' h => ⟨h.1, by have := h.2; simp at this; omega⟩)
structure TF (f : TFunc) : Prop where
  r : rightF f = true
  s : SmF f
theorem tf_mk {nm : ByteArray} {ex : Bool} {a : Int} {ps : List TParam} {res : Int} {body : List TStmt} (h1 : isWord nm = true) (h2 : TPs ps) (h3 : ps.length ≤ 1000000000) (h4 : 0 ≤ res ∧ res ≤ 3) (h5 : TSs body) (h6 : body.length ≤ 1000000000) : TF ⟨nm, ex, a, ps, res, body⟩ :=
  ⟨by simp [rightF, h1, h4.1, h4.2, h5.r]; exact h2, ⟨by have := word_size h1; exact Nat.le_trans this (by decide), h3, fun p hp => by
    have := h2 p hp
    unfold rightP at this
    rw [Bool.and_eq_true] at this
    exact Nat.le_trans (word_size this.1) (by decide), h6, h5.s⟩⟩
theorem ok_func {n : Nat} (hn : n ≤ 100000000) (ex : Bool) : Ok TF (pFunc n ex) := by
  obtain ⟨hB, _, _, _⟩ := ok_stmts n hn
  unfold pFunc
  exact .bind (ok_must _) fun _ _ => .bind ok_word fun w hw => .bind (ok_open _ _) fun _ _ => .bind (ok_params n [] (fun e he => by cases he)) fun ps hps => .bind (ok_is _) fun b _ => .bool (fun _ => .next (.bind ok_type fun t ht => .bind (hB 0) fun b hb => .ret (tf_mk hw hps.1 (by have := hps.2; simp at this; omega) ⟨by omega, ht.2⟩ hb.1 (by omega)))) (fun _ => .bind (hB 0) fun b hb => .ret (tf_mk hw hps.1 (by have := hps.2; simp at this; omega) ⟨by omega, by omega⟩ hb.1 (by omega)))
structure TC (c : TCons) : Prop where
  w : isWord c.nm = true
  e : TE c.e
theorem ok_const {n : Nat} (hn : n ≤ 100000000) (ex : Bool) : Ok TC (pConst n ex) := by
  obtain ⟨hL, _⟩ := ok_exprs n hn
  unfold pConst
  exact .bind (ok_must _) fun _ _ => .bind ok_word fun w hw => .bind (ok_must _) fun _ _ => .bind (hL _ _) fun e he => .bind (ok_must _) fun _ _ => .ret ⟨hw, he⟩
structure TI' (x : TIncl) : Prop where
  p : x.p.size ≤ 4096
  w : isWord x.nm = true
theorem ok_incl : Ok TI' pIncl := .bind (ok_must _) fun _ _ => .bind (ok_of 3) fun q _ => .bind (ok_must _) fun _ _ => .bind ok_word fun w hw => .bind (ok_must _) fun _ _ => .ret ⟨txt_len _, hw⟩
theorem ok_incls : ∀ (n : Nat) (l : List TIncl), (∀ x ∈ l, TI' x) → Ok (fun l' => (∀ x ∈ l', TI' x) ∧ l'.length ≤ l.length + n) (pIncls n l)
  | 0, l, _ => .out
  | n + 1, l, hl => .bind (ok_is _) fun b _ => .bool (fun _ => .bind ok_incl fun e he => (ok_incls n (l ++ [e]) (by
        intro x hx
        rcases List.mem_append.1 hx with h | h
        · exact hl x h
        · rw [List.mem_singleton] at h; subst h; exact he)).mono fun l' h => ⟨h.1, by have := h.2; simp at this; omega⟩) (fun _ => .ret ⟨hl, by omega⟩)
/-- a module that is right, its rows not too long -/
structure TM (n : Nat) (m : TMod) : Prop where
  is : ∀ x ∈ m.is, TI' x
  ni : m.is.length ≤ 100000000
  cs : ∀ c ∈ m.cs, TC c
  fs : ∀ f ∈ m.fs, TF f
  n : m.cs.length + m.fs.length ≤ n
theorem ok_decls {N : Nat} : ∀ (n k : Nat) (m : TMod), n + k ≤ N → N ≤ 100000000 → TM k m → Ok (TM N) (pDecls n m)
  | 0, _, _, _, _, _ => .out
  | n + 1, k, m, hk, hN, hm => by
    have hd : ∀ ex, Ok (TM N) (pDecl (pDecls n) n ex m) := fun ex => .look fun t _ => .bool
      (fun _ => .bind (ok_const (by omega) ex) fun c hc => ok_decls n (k + 1) _ (by omega) hN ⟨hm.is, hm.ni, fun x hx => by
        rcases List.mem_append.1 hx with h | h
        · exact hm.cs x h
        · rw [List.mem_singleton] at h; subst h; exact hc, hm.fs, by have := hm.n; simp; omega⟩)
      (fun _ => .bool (fun _ => .bind (ok_func (by omega) ex) fun c hc => ok_decls n (k + 1) _ (by omega) hN ⟨hm.is, hm.ni, hm.cs, fun x hx => by
        rcases List.mem_append.1 hx with h | h
        · exact hm.fs x h
        · rw [List.mem_singleton] at h; subst h; exact hc, by have := hm.n; simp; omega⟩) (fun _ => .err _))
    exact .look fun t _ => .bool (fun _ => .ret ⟨hm.is, hm.ni, hm.cs, hm.fs, by have := hm.n; omega⟩) (fun _ => .bool (fun _ => .next (hd true)) (fun _ => hd false))
theorem ok_module {n : Nat} (hn : n ≤ 100000000) : Ok (TM n) (pModule n) :=
  .bind (ok_incls n [] (fun e he => by cases he)) fun l hl => ok_decls n 0 _ (by omega) hn ⟨hl.1, (by have := hl.2; simp at this; exact Nat.le_trans this hn), fun c hc => (by cases hc), fun c hc => (by cases hc), by simp⟩
theorem TM.r {n : Nat} {m : TMod} (h : TM n m) : rightM m = true := by
  unfold rightM
  simp only [Bool.and_eq_true, List.all_eq_true]
  refine ⟨fun x hx => ?_, fun c hc => ?_, fun f hf => (h.fs f hf).r⟩
  · have := h.is x hx
    simp [rightI, this.p, this.w]
  · have := h.cs c hc
    simp [rightC, this.w, this.e.r]
theorem TM.s {n : Nat} {m : TMod} (h : TM n m) (hn : n ≤ 100000000) : SmM m :=
  ⟨by have := h.ni; omega, by have := h.n; omega, by have := h.n; omega, fun x hx => Nat.le_trans (word_size (h.is x hx).w) (by decide), fun c hc => ⟨Nat.le_trans (word_size (h.cs c hc).w) (by decide), (h.cs c hc).e.s⟩, fun f hf => (h.fs f hf).s⟩
theorem ok_end {α : Type} {Q : α → Prop} {p : Gr α} (h : Ok Q p) : Ok Q (pEnd p) := .bind h fun x hx => .look fun t _ => .bool (fun _ => .ret hx) (fun _ => .err _)
/-- the tokens of a source are good -/
theorem chain_good {s : ByteArray} {i b : Nat} {l : List Tk} {f : Nat × Nat} (h : Chain s i b l f) : i ≤ s.size → ∀ t ∈ l, GoodTk t := by
  induction h with
  | bad h1 => intro _ t ht; cases ht
  | out h1 h2 => intro _ t ht; cases ht
  | fin h1 h2 =>
    intro hi t ht
    rw [List.mem_singleton] at ht
    subst ht
    exact fun hk => absurd h2 hk
  | @tok i b l f h1 h2 h3 ih =>
    intro hi t ht
    rcases List.mem_cons.1 ht with rfl | ht
    · exact fun _ => tkAt_good s i hi h1 h2
    · exact ih (tkAt_to s i hi h1).2 t ht
theorem told_mod {s : ByteArray} {b : Nat} {l r : List Tk} {f : Nat × Nat} {m : TMod} (hc : Chain s 0 b l f) (h : runL (pEnd (pModule bigN)) l = .ok m r) : rightM m = true ∧ SmM m := by
  cases l with
  | nil => cases h
  | cons t l =>
    obtain ⟨h1, _⟩ := ok_end (ok_module (n := bigN) (by decide)) _ (chain_good hc (Nat.zero_le _)) m r h
    exact ⟨h1.r, h1.s (by decide)⟩
theorem told_expr {s : ByteArray} {b : Nat} {l r : List Tk} {f : Nat × Nat} {e : TExpr} (hc : Chain s 0 b l f) (h : runL (pEnd (pLine bigN 0 0)) l = .ok e r) : TE e := by
  cases l with
  | nil => cases h
  | cons t l => exact (ok_end ((ok_exprs bigN (by decide)).1 0 0) _ (chain_good hc (Nat.zero_le _)) e r h).1
end Go.Proofs.YtacfbgfphkfobaaDoor.Id
/-! ## PaNest -/
namespace Go.Proofs.YtacfbgfphkfobaaDoor.Id
open Go
set_option linter.unusedVariables false
set_option linter.unusedSimpArgs false
def opn (ks : List Nat) (a o : Nat) : Nat := match ks with
  | [] => a
  | _ => o
/-- tokens of so many levels, and what is behind them; o: where the innermost level opens -/
inductive Nest : List Nat → Nat → List Tk → List Tk → Prop
  | one {t : Tk} {rest : List Tk} (h : t.k = 2) : Nest [] 0 (t :: rest) rest
  | par {ks : List Nat} {o : Nat} {a b : Tk} {l rest : List Tk} (ha : a.k = 5 ∧ a.s = mkB [40]) (hb : b.k = 5 ∧ b.s = mkB [41]) (h : Nest ks o l (b :: rest)) : Nest (0 :: ks) (opn ks a.a o) (a :: l) rest
  | neg {ks : List Nat} {o : Nat} {a : Tk} {l rest : List Tk} (ha : a.k = 5 ∧ a.s = mkB [45]) (h : Nest ks o l rest) : Nest (1 :: ks) (opn ks a.a o) (a :: l) rest
  | call {k : Nat} {ks : List Nat} {o : Nat} {f a b : Tk} {l rest : List Tk} (hf : f.k = 1) (ha : a.k = 5 ∧ a.s = mkB [40]) (hb : b.k = 5 ∧ b.s = mkB [41]) (h : Nest ks o l (b :: rest)) : Nest ((k + 2) :: ks) (opn ks a.a o) (f :: a :: l) rest
abbrev Quiet (u : Tk) : Prop := u.k = 0 ∨ (u.k = 5 ∧ u.s = mkB [41])
theorem quiet_signs : ∀ k : Fin 5, (signs k.val).any (fun x => decide (mkB [41] = x)) = false := by decide +kernel
theorem quiet_any {u : Tk} (h : Quiet u) (k : Nat) : isAny u (signs k) = false := by
  unfold isAny
  rcases h with h | ⟨h1, h2⟩
  · simp [h]
  · rw [h2, signs_le, quiet_signs ⟨min k 4, by omega⟩]; simp
theorem isT_of {t : Tk} {x : ByteArray} (h : t.k = 5 ∧ t.s = x) : isT t x = true := by unfold isT; simp [h.1, h.2]
theorem isT_ne {t : Tk} {x y : ByteArray} (h : t.k = 5 ∧ t.s = x) (hn : x ≠ y) : isT t y = false := by unfold isT; simp [h.1, h.2, hn]
theorem isT_kind {t : Tk} {y : ByteArray} (h : t.k ≠ 4 ∧ t.k ≠ 5) : isT t y = false := by unfold isT; simp [h.1, h.2]
theorem isAny_kind {t : Tk} {y : List ByteArray} (h : t.k ≠ 4 ∧ t.k ≠ 5) : isAny t y = false := by unfold isAny; simp [h.1, h.2]
theorem run_open {a t : Tk} {r : List Tk} {x : ByteArray} {d : Nat} (h : isT a x = true) (hd : ¬ 64 ≤ d) : runG (gOpen x d) (a :: t :: r) = .ok () (t :: r) := by
  show runG (match isT a x with | true => (match decide (64 ≤ d) with | true => Gr.err 141 | false => .next (.ret ())) | false => .err 140) (a :: t :: r) = _
  rw [h, decide_eq_false hd]; rfl
theorem run_open_err {a : Tk} {r : List Tk} {x : ByteArray} {d : Nat} (h : isT a x = true) (hd : 64 ≤ d) : runG (gOpen x d) (a :: r) = .err 141 (a :: r) := by
  show runG (match isT a x with | true => (match decide (64 ≤ d) with | true => Gr.err 141 | false => .next (.ret ())) | false => .err 140) (a :: r) = _
  rw [h, decide_eq_true hd]; rfl
theorem run_must {a t : Tk} {r : List Tk} {x : ByteArray} (h : isT a x = true) : runG (gMust x) (a :: t :: r) = .ok a.a (t :: r) := by
  show runG (match isT a x with | true => Gr.next (.ret a.a) | false => .err 140) (a :: t :: r) = _
  rw [h]; rfl
theorem run_of {a t : Tk} {r : List Tk} {k : Nat} (h : a.k = k) : runG (gOf k) (a :: t :: r) = .ok (a.s, a.a) (t :: r) := by
  show runG (match decide (a.k = k) with | true => Gr.next (.ret (a.s, a.a)) | false => .err 140) (a :: t :: r) = _
  rw [decide_eq_true h]; rfl
theorem run_is (x : ByteArray) (t : Tk) (r : List Tk) : runG (gIs x) (t :: r) = .ok (isT t x) (t :: r) := rfl
theorem run_bind {α β : Type} {p : Gr α} {f : α → Gr β} {l l' : List Tk} {x : α} (h : runG p l = .ok x l') : runG (p.bind f) l = runG (f x) l' := by rw [runG_bind, h]; rfl
theorem run_bind_err {α β : Type} {p : Gr α} {f : α → Gr β} {l l' : List Tk} {c : Nat} (h : runG p l = .err c l') : runG (p.bind f) l = .err c l' := by rw [runG_bind, h]; rfl
theorem run_look {α : Type} (f : Tk → Gr α) (t : Tk) (r : List Tk) : runG (.look f) (t :: r) = runG (f t) (t :: r) := rfl
theorem line_of {n d : Nat} {l r : List Tk} {e : TExpr} {u : Tk} (h : runG (pUnary (n + 1) d) l = .ok e (u :: r)) (hu : Quiet u) : ∀ j, j ≤ 5 → runG (pLine (n + 2 + j) (5 - j) d) l = .ok e (u :: r)
  | 0, _ => by
    show runG (pLine (n + 2) 5 d) l = _
    rw [pLine]; exact h
  | j + 1, hj => by
    have ih := line_of h hu j (by omega)
    rw [show n + 2 + (j + 1) = (n + 2 + j) + 1 by omega, pLine, decide_eq_false (show ¬ 5 - (j + 1) = 5 by omega)]
    show runG ((pLine (n + 2 + j) (5 - (j + 1) + 1) d).bind fun e => pTail (n + 2 + j) (5 - (j + 1)) d e) l = _
    rw [show 5 - (j + 1) + 1 = 5 - j by omega, run_bind ih, show n + 2 + j = (n + 1 + j) + 1 by omega, pTail, run_look, quiet_any hu]
    rfl
theorem line_err {n d : Nat} {l l' : List Tk} {c : Nat} (h : runG (pUnary (n + 1) d) l = .err c l') : ∀ j, j ≤ 5 → runG (pLine (n + 2 + j) (5 - j) d) l = .err c l'
  | 0, _ => by
    show runG (pLine (n + 2) 5 d) l = _
    rw [pLine]; exact h
  | j + 1, hj => by
    have ih := line_err h j (by omega)
    rw [show n + 2 + (j + 1) = (n + 2 + j) + 1 by omega, pLine, decide_eq_false (show ¬ 5 - (j + 1) = 5 by omega)]
    show runG ((pLine (n + 2 + j) (5 - (j + 1) + 1) d).bind fun e => pTail (n + 2 + j) (5 - (j + 1)) d e) l = _
    rw [show 5 - (j + 1) + 1 = 5 - j by omega, run_bind_err ih]
theorem line0_of {n d : Nat} {l r : List Tk} {e : TExpr} {u : Tk} (h : runG (pUnary (n + 1) d) l = .ok e (u :: r)) (hu : Quiet u) : runG (pLine (n + 7) 0 d) l = .ok e (u :: r) := line_of h hu 5 (by omega)
theorem line0_err {n d : Nat} {l l' : List Tk} {c : Nat} (h : runG (pUnary (n + 1) d) l = .err c l') : runG (pLine (n + 7) 0 d) l = .err c l' := line_err h 5 (by omega)
theorem nest_head {ks : List Nat} {o : Nat} {l rest : List Tk} (h : Nest ks o l rest) : ∃ t r, l = t :: r ∧ isT t (mkB [41]) = false := by
  cases h with
  | one h => exact ⟨_, _, rfl, isT_kind (by omega)⟩
  | par ha hb h => exact ⟨_, _, rfl, isT_ne ha (by decide)⟩
  | neg ha h => exact ⟨_, _, rfl, isT_ne ha (by decide)⟩
  | call hf ha hb h => exact ⟨_, _, rfl, isT_kind (by omega)⟩
theorem un_par {n d : Nat} {a : Tk} {l : List Tk} (ha : a.k = 5 ∧ a.s = mkB [40]) : runG (pUnary (n + 2) d) (a :: l) = runG ((gOpen (mkB [40]) d).bind fun _ => (pLine n 0 (d + 1)).bind fun e => (gMust (mkB [41])).bind fun _ => .ret e) (a :: l) := by
  rw [pUnary, run_look, show isAny a unSigns = false by unfold isAny unSigns; rw [ha.2]; first | (simp; done) | (simp; decide)]
  show runG (pPrim (n + 1) d) (a :: l) = _
  rw [pPrim, run_look, decide_eq_false (show ¬ a.k = 2 by omega)]
  dsimp only
  rw [decide_eq_false (show ¬ a.k = 3 by omega)]
  dsimp only
  rw [show isAny a [mkB [116, 114, 117, 101], mkB [102, 97, 108, 115, 101]] = false by unfold isAny; rw [ha.2]; first | (simp; done) | (simp; decide)]
  dsimp only
  rw [isT_of ha]
theorem un_neg {n d : Nat} {a : Tk} {l : List Tk} (ha : a.k = 5 ∧ a.s = mkB [45]) : runG (pUnary (n + 1) d) (a :: l) = runG (match decide (64 ≤ d) with | true => .err 141 | false => .next ((pUnary n (d + 1)).bind fun e => .ret (una a.a a.s e))) (a :: l) := by
  rw [pUnary, run_look, show isAny a unSigns = true by unfold isAny unSigns; rw [ha.2]; simp [ha.1]]
  rfl
theorem un_call {n d : Nat} {f a t : Tk} {l : List Tk} (hf : f.k = 1) (ha : a.k = 5 ∧ a.s = mkB [40]) : runG (pUnary (n + 4) d) (f :: a :: t :: l) = runG ((gOpen (mkB [40]) d).bind fun _ => (pArgl n (d + 1) []).bind fun l => .ret (.mk 3 f.a b0 f.s val0 0 l)) (a :: t :: l) := by
  rw [pUnary, run_look, isAny_kind (by omega)]
  show runG (pPrim (n + 3) d) _ = _
  rw [pPrim, run_look, decide_eq_false (show ¬ f.k = 2 by omega)]
  dsimp only
  rw [decide_eq_false (show ¬ f.k = 3 by omega)]
  dsimp only
  rw [isAny_kind (by omega)]
  dsimp only
  rw [isT_kind (by omega)]
  dsimp only
  rw [run_bind (run_of hf), run_bind (run_is _ _ _), isT_ne ha (by decide)]
  show runG (pName (n + 2) d f.a b0 f.s) _ = _
  rw [pName, run_bind (run_is _ _ _), isT_of ha]
  show runG ((pArgs (n + 1) d).bind _) _ = _
  rw [pArgs, gr_assoc]
theorem nest_ok {ks : List Nat} {o : Nat} {l rest : List Tk} (h : Nest ks o l rest) : ∀ (n d : Nat), d + ks.length ≤ 64 → 20 * ks.length ≤ n → (∃ u r, rest = u :: r ∧ Quiet u) → ∃ e, runG (pUnary (n + 20) d) l = .ok e rest := by
  induction h with
  | @one t rest h =>
    rintro n d hd hn ⟨u, r, rfl, hu⟩
    refine ⟨.mk 1 t.a b0 b0 ⟨1, numZ t.s, false, b0⟩ 0 [], ?_⟩
    rw [pUnary, run_look, isAny_kind (by omega)]
    show runG (pPrim (n + 19) d) _ = _
    rw [pPrim, run_look, decide_eq_true h]
    rfl
  | @par ks o a b l rest ha hb h ih =>
    rintro n d hd hn ⟨u, r, rfl, hu⟩
    simp only [List.length_cons] at hd hn
    obtain ⟨e, he⟩ := ih (n - 8) (d + 1) (by omega) (by omega) ⟨b, u :: r, rfl, .inr hb⟩
    obtain ⟨t, q, rfl, _⟩ := nest_head h
    rw [show n - 8 + 20 = (n + 11) + 1 by omega] at he
    refine ⟨e, ?_⟩
    rw [un_par ha, run_bind (run_open (isT_of ha) (by omega)), run_bind (line0_of he (.inr hb)), run_bind (run_must (isT_of hb))]
    rfl
  | @neg ks o a l rest ha h ih =>
    rintro n d hd hn ⟨u, r, rfl, hu⟩
    simp only [List.length_cons] at hd hn
    obtain ⟨e, he⟩ := ih (n - 1) (d + 1) (by omega) (by omega) ⟨u, r, rfl, hu⟩
    obtain ⟨t, q, rfl, _⟩ := nest_head h
    refine ⟨una a.a a.s e, ?_⟩
    rw [un_neg ha, decide_eq_false (by omega)]
    show runG ((pUnary (n + 19) (d + 1)).bind _) (t :: q) = _
    rw [show n - 1 + 20 = n + 19 by omega] at he
    rw [run_bind he]; rfl
  | @call k ks o f a b l rest hf ha hb h ih =>
    rintro n d hd hn ⟨u, r, rfl, hu⟩
    simp only [List.length_cons] at hd hn
    obtain ⟨e, he⟩ := ih (n - 11) (d + 1) (by omega) (by omega) ⟨b, u :: r, rfl, .inr hb⟩
    obtain ⟨t, q, rfl, ht⟩ := nest_head h
    rw [show n - 11 + 20 = (n + 8) + 1 by omega] at he
    refine ⟨.mk 3 f.a b0 f.s val0 0 [e], ?_⟩
    rw [show n + 20 = (n + 16) + 4 by omega, un_call hf ha, run_bind (run_open (isT_of ha) (by omega)), pArgl, gr_assoc, run_bind (run_is _ _ _), ht]
    show runG (((gSep 0).bind fun _ => (pLine (n + 15) 0 (d + 1)).bind fun e => pArgl (n + 15) (d + 1) ([] ++ [e])).bind _) _ = _
    rw [gSep_zero (by omega), gr_assoc, run_bind (line0_of he (.inr hb)), pArgl, gr_assoc, run_bind (run_is _ _ _), isT_of hb]
    rfl
theorem nest_err {ks : List Nat} {o : Nat} {l rest : List Tk} (h : Nest ks o l rest) : ∀ (n d : Nat), ks ≠ [] → d + ks.length = 65 → 20 * ks.length ≤ n → ∃ t r, runG (pUnary (n + 20) d) l = .err 141 (t :: r) ∧ t.a = o := by
  induction h with
  | one h => intro n d hk; exact absurd rfl hk
  | @par ks o a b l rest ha hb h ih =>
    intro n d hk hd hn
    simp only [List.length_cons] at hd hn
    cases ks with
    | nil =>
      simp only [List.length_nil] at hd
      exact ⟨a, l, by rw [un_par ha, run_bind_err (run_open_err (isT_of ha) (by omega))], rfl⟩
    | cons k ks =>
      simp only [List.length_cons] at hd hn
      obtain ⟨t, r, he, ho⟩ := ih (n - 8) (d + 1) (by simp) (by simp; omega) (by simp; omega)
      obtain ⟨t', q, rfl, _⟩ := nest_head h
      rw [show n - 8 + 20 = (n + 11) + 1 by omega] at he
      exact ⟨t, r, by rw [un_par ha, run_bind (run_open (isT_of ha) (by omega)), run_bind_err (line0_err he)], ho⟩
  | @neg ks o a l rest ha h ih =>
    intro n d hk hd hn
    simp only [List.length_cons] at hd hn
    cases ks with
    | nil =>
      simp only [List.length_nil] at hd
      exact ⟨a, l, by rw [un_neg ha, decide_eq_true (by omega)]; rfl, rfl⟩
    | cons k ks =>
      simp only [List.length_cons] at hd hn
      obtain ⟨t, r, he, ho⟩ := ih (n - 1) (d + 1) (by simp) (by simp; omega) (by simp; omega)
      obtain ⟨t', q, rfl, _⟩ := nest_head h
      refine ⟨t, r, ?_, ho⟩
      rw [un_neg ha, decide_eq_false (by omega)]
      show runG ((pUnary (n + 19) (d + 1)).bind _) (t' :: q) = _
      rw [show n - 1 + 20 = n + 19 by omega] at he
      rw [run_bind_err he]
  | @call k ks o f a b l rest hf ha hb h ih =>
    intro n d hk hd hn
    simp only [List.length_cons] at hd hn
    obtain ⟨t', q, rfl, ht⟩ := nest_head h
    cases ks with
    | nil =>
      simp only [List.length_nil] at hd
      exact ⟨a, t' :: q, by rw [show n + 20 = (n + 16) + 4 by omega, un_call hf ha, run_bind_err (run_open_err (isT_of ha) (by omega))], rfl⟩
    | cons k' ks =>
      simp only [List.length_cons] at hd hn
      obtain ⟨t, r, he, ho⟩ := ih (n - 11) (d + 1) (by simp) (by simp; omega) (by simp; omega)
      rw [show n - 11 + 20 = (n + 8) + 1 by omega] at he
      refine ⟨t, r, ?_, ho⟩
      rw [show n + 20 = (n + 16) + 4 by omega, un_call hf ha, run_bind (run_open (isT_of ha) (by omega)), pArgl, gr_assoc, run_bind (run_is _ _ _), ht]
      show runG (((gSep 0).bind fun _ => (pLine (n + 15) 0 (d + 1)).bind fun e => pArgl (n + 15) (d + 1) ([] ++ [e])).bind _) _ = _
      rw [gSep_zero (by omega), gr_assoc, run_bind_err (line0_err he)]
end Go.Proofs.YtacfbgfphkfobaaDoor.Id
/-! ## PaNestB -/
namespace Go.Proofs.YtacfbgfphkfobaaDoor.Id
open Go
set_option linter.unusedVariables false
set_option linter.unusedSimpArgs false
/-- a nested source's bytes -/
def srcL : List Nat → List UInt8
  | [] => [49]
  | 0 :: r => 40 :: (srcL r ++ [41])
  | 1 :: r => 45 :: srcL r
  | _ :: r => 102 :: 40 :: (srcL r ++ [41])
/-- where its innermost level opens -/
def lastL : List Nat → Nat
  | [] => 0
  | k :: [] => if 2 ≤ k then 1 else 0
  | k :: r => (if 2 ≤ k then 2 else 1) + lastL r
abbrev Closed (q : List UInt8) : Prop := q = [] ∨ ∃ r, q = 41 :: r
theorem nx_one {l r : List UInt8} {i k : Nat} {c : UInt8} (h : l.drop i = c :: r) (hg : gapL false (c :: r) = 0) (ht : tok (c :: r) = (k, 1, 0)) : nx l i = (k, i, i + 1, 0) := by
  have hi := (drop_some h).1
  unfold nx
  rw [h, hg, Nat.add_zero, h, ht]
  rw [if_neg (by omega)]
  rfl
theorem two_not (c : UInt8) (h : ∀ d ∈ twoSigns, d.head? ≠ some c) (r : List UInt8) : ¬ (c :: r).take 2 ∈ twoSigns := fun hm => by
  have := h _ hm
  cases r <;> simp at this
theorem tok_sg {c : UInt8} (r : List UInt8) (h1 : isL c = false) (h2 : isD c = false) (h3 : c.toNat ≠ 34) (h4 : ∀ d ∈ twoSigns, d.head? ≠ some c) (h5 : c ∈ oneSigns) : tok (c :: r) = (5, 1, 0) := by
  have hs : sgn (c :: r) = 1 := by
    unfold sgn
    rw [if_neg (two_not c h4 r)]
    simp only
    rw [if_pos h5]
  show tokC c r = _
  unfold tokC
  rw [if_neg (by simp [h1]), if_neg (by simp [h2]), if_neg h3, hs]
  rfl
theorem tok_par (r : List UInt8) : tok (40 :: r) = (5, 1, 0) := tok_sg r (by decide +kernel) (by decide +kernel) (by decide +kernel) (by decide +kernel) (by decide +kernel)
theorem tok_rap (r : List UInt8) : tok (41 :: r) = (5, 1, 0) := tok_sg r (by decide +kernel) (by decide +kernel) (by decide +kernel) (by decide +kernel) (by decide +kernel)
theorem tok_neg (r : List UInt8) : tok (45 :: r) = (5, 1, 0) := tok_sg r (by decide +kernel) (by decide +kernel) (by decide +kernel) (by decide +kernel) (by decide +kernel)
theorem tok_one {q : List UInt8} (h : Closed q) : tok (49 :: q) = (2, 1, 0) := by
  have hd : isD 49 = true := by decide +kernel
  have hq : q.takeWhile isD = [] ∧ headL q = false := by
    rcases h with rfl | ⟨r, rfl⟩
    · exact ⟨rfl, rfl⟩
    · refine ⟨?_, by show isL 41 = false; decide +kernel⟩
      rw [List.takeWhile_cons, if_neg (by decide +kernel)]
  show tokC 49 q = _
  unfold tokC
  rw [if_neg (by decide +kernel), if_pos hd, List.takeWhile_cons, if_pos hd, hq.1]
  simp only [List.length_cons, List.length_nil, Nat.zero_add, List.take_succ_cons, List.take_zero, List.drop_succ_cons, List.drop_zero]
  rw [hq.2, show numOk [49] = true by decide +kernel]
  rfl
theorem tok_f (r : List UInt8) : tok (102 :: 40 :: r) = (1, 1, 0) := by
  have e : (102 :: 40 :: r : List UInt8).takeWhile isW = [102] := by
    rw [List.takeWhile_cons, if_pos (by decide +kernel), List.takeWhile_cons, if_neg (by decide +kernel)]
  show tokC 102 (40 :: r) = _
  unfold tokC
  rw [if_pos (by decide +kernel), e]
  simp only [List.length_cons, List.length_nil, Nat.zero_add, List.take_succ_cons, List.take_zero]
  rw [if_neg (by omega), if_neg (by decide +kernel)]
theorem gap_not {c : UInt8} {r : List UInt8} (h1 : isSp c = false) (h2 : isSl c = false) : gapL false (c :: r) = 0 := by
  rw [gapL, if_neg (by simp [h1]), if_neg (by simp [h2])]
/-- a token of one byte -/
theorem chain_one {s : ByteArray} {i b k : Nat} {c : UInt8} {r : List UInt8} {l : List Tk} {f : Nat × Nat} (h : (L s).drop i = c :: r) (h1 : isSp c = false) (h2 : isSl c = false) (ht : tok (c :: r) = (k, 1, 0)) (hk : k ≠ 0) (hc : Chain s (i + 1) b l f) :
    Chain s i (b + 1) (tkAt s i :: l) f ∧ (tkAt s i).k = k ∧ (tkAt s i).a = i ∧ (tkAt s i).s = mkB [c] := by
  have hn := nx_one h (gap_not h1 h2) ht
  refine ⟨.tok (by rw [hn]) (by rw [hn]; exact hk) (by rw [hn]; exact hc), ?_, ?_, ?_⟩
  · show (nx (L s) i).1 = k; rw [hn]
  · show (nx (L s) i).2.1 = i; rw [hn]
  · show s.extract (nx (L s) i).2.1 (nx (L s) i).2.2.1 = _
    rw [hn]
    apply L_inj
    rw [L_extract, L_mkB, h, show i + 1 - i = 1 by omega]; rfl
theorem drop_pre {l p q : List UInt8} {i : Nat} (h : l = p ++ q) (hi : p.length = i) : l.drop i = q := by subst h hi; simp
theorem nest_chain {s : ByteArray} : ∀ (ks : List Nat) (p q : List UInt8) (i b : Nat) (rest : List Tk) (f : Nat × Nat), L s = p ++ srcL ks ++ q → p.length = i → Closed q → Chain s (i + (srcL ks).length) b rest f →
    ∃ l o, Nest ks o l rest ∧ Chain s i (b + (srcL ks).length) l f ∧ (ks ≠ [] → o = i + lastL ks)
  | [], p, q, i, b, rest, f, hL, hp, hq, hc => by
    have hd : (L s).drop i = 49 :: q := drop_pre (by rw [hL, List.append_assoc]; rfl) hp
    obtain ⟨h1, h2, _, _⟩ := chain_one hd (by decide +kernel) (by decide +kernel) (tok_one hq) (by decide) hc
    exact ⟨_, _, .one h2, h1, fun h => absurd rfl h⟩
  | 0 :: ks, p, q, i, b, rest, f, hL, hp, hq, hc => by
    have e : srcL (0 :: ks) = 40 :: (srcL ks ++ [41]) := rfl
    rw [e] at hL hc ⊢
    simp only [List.length_cons, List.length_append, List.length_nil, Nat.zero_add] at hc ⊢
    have hdo : (L s).drop i = 40 :: (srcL ks ++ [41] ++ q) := drop_pre (by rw [hL, List.append_assoc]; rfl) hp
    have hdc : (L s).drop (i + 1 + (srcL ks).length) = 41 :: q := drop_pre (p := p ++ 40 :: srcL ks) (by rw [hL]; simp) (by simp; omega)
    obtain ⟨c1, c2, c3, c4⟩ := chain_one hdc (by decide +kernel) (by decide +kernel) (tok_rap q) (by decide) (by rw [show i + 1 + (srcL ks).length + 1 = i + ((srcL ks).length + 1 + 1) by omega]; exact hc)
    obtain ⟨l, o, g1, g2, g3⟩ := nest_chain ks (p ++ [40]) (41 :: q) (i + 1) (b + 1) _ f (by rw [hL]; simp) (by simp; omega) (.inr ⟨q, rfl⟩) c1
    obtain ⟨o1, o2, o3, o4⟩ := chain_one hdo (by decide +kernel) (by decide +kernel) (tok_par _) (by decide) g2
    refine ⟨_, _, .par ⟨o2, o4⟩ ⟨c2, c4⟩ g1, by rw [show b + ((srcL ks).length + 1 + 1) = b + 1 + (srcL ks).length + 1 by omega]; exact o1, fun _ => ?_⟩
    cases ks with
    | nil => show (tkAt s i).a = _; rw [o3]; rfl
    | cons k ks => show o = _; rw [g3 (by simp)]; simp only [lastL]; rw [if_neg (by omega)]; omega
  | 1 :: ks, p, q, i, b, rest, f, hL, hp, hq, hc => by
    have e : srcL (1 :: ks) = 45 :: srcL ks := rfl
    rw [e] at hL hc ⊢
    simp only [List.length_cons] at hc ⊢
    have hdo : (L s).drop i = 45 :: (srcL ks ++ q) := drop_pre (by rw [hL, List.append_assoc]; rfl) hp
    obtain ⟨l, o, g1, g2, g3⟩ := nest_chain ks (p ++ [45]) q (i + 1) b rest f (by rw [hL]; simp) (by simp; omega) hq (by rw [show i + 1 + (srcL ks).length = i + ((srcL ks).length + 1) by omega]; exact hc)
    obtain ⟨o1, o2, o3, o4⟩ := chain_one hdo (by decide +kernel) (by decide +kernel) (tok_neg _) (by decide) g2
    refine ⟨_, _, .neg ⟨o2, o4⟩ g1, o1, fun _ => ?_⟩
    cases ks with
    | nil => show (tkAt s i).a = _; rw [o3]; rfl
    | cons k ks => show o = _; rw [g3 (by simp)]; simp only [lastL]; rw [if_neg (by omega)]; omega
  | (k + 2) :: ks, p, q, i, b, rest, f, hL, hp, hq, hc => by
    have e : srcL ((k + 2) :: ks) = 102 :: 40 :: (srcL ks ++ [41]) := rfl
    rw [e] at hL hc ⊢
    simp only [List.length_cons, List.length_append, List.length_nil, Nat.zero_add] at hc ⊢
    have hdf : (L s).drop i = 102 :: 40 :: (srcL ks ++ [41] ++ q) := drop_pre (by rw [hL, List.append_assoc]; rfl) hp
    have hdo : (L s).drop (i + 1) = 40 :: (srcL ks ++ [41] ++ q) := drop_pre (p := p ++ [102]) (by rw [hL]; simp) (by simp; omega)
    have hdc : (L s).drop (i + 2 + (srcL ks).length) = 41 :: q := drop_pre (p := p ++ 102 :: 40 :: srcL ks) (by rw [hL]; simp) (by simp; omega)
    obtain ⟨c1, c2, c3, c4⟩ := chain_one hdc (by decide +kernel) (by decide +kernel) (tok_rap q) (by decide) (by rw [show i + 2 + (srcL ks).length + 1 = i + ((srcL ks).length + 1 + 1 + 1) by omega]; exact hc)
    obtain ⟨l, o, g1, g2, g3⟩ := nest_chain ks (p ++ [102, 40]) (41 :: q) (i + 2) (b + 1) _ f (by rw [hL]; simp) (by simp; omega) (.inr ⟨q, rfl⟩) c1
    obtain ⟨o1, o2, o3, o4⟩ := chain_one hdo (by decide +kernel) (by decide +kernel) (tok_par _) (by decide) g2
    obtain ⟨f1, f2, f3, f4⟩ := chain_one hdf (by decide +kernel) (by decide +kernel) (tok_f _) (by decide) o1
    refine ⟨_, _, .call f2 ⟨o2, o4⟩ ⟨c2, c4⟩ g1, by rw [show b + ((srcL ks).length + 1 + 1 + 1) = b + 1 + (srcL ks).length + 1 + 1 by omega]; exact f1, fun _ => ?_⟩
    cases ks with
    | nil => show (tkAt s (i + 1)).a = _; rw [o3]; simp only [lastL]; rw [if_pos (by omega)]
    | cons k ks => show o = _; rw [g3 (by simp)]; simp only [lastL]; rw [if_pos (by omega)]; omega
/-- the tokens of a whole nested source -/
theorem nest_whole {s : ByteArray} {ks : List Nat} (h : L s = srcL ks) : ∃ l o, Nest ks o l [tkAt s s.size] ∧ Chain s 0 s.size l (0, 0) ∧ (ks ≠ [] → o = lastL ks) ∧ (tkAt s s.size).k = 0 := by
  have hz : s.size = (srcL ks).length := by rw [← L_length, h]
  have hn : nx (L s) s.size = (0, s.size, s.size, 0) := by
    unfold nx
    rw [List.drop_eq_nil_of_le (by rw [L_length]; exact Nat.le_refl _)]
    rw [if_pos (by rw [L_length]; rfl), L_length]
  obtain ⟨l, o, h1, h2, h3⟩ := nest_chain (s := s) ks [] [] 0 0 [tkAt s s.size] (0, 0) (by rw [h]; simp) rfl (.inl rfl) (by
    rw [Nat.zero_add, ← hz]
    exact .fin (by rw [hn]) (by rw [hn]))
  refine ⟨l, o, h1, ?_, fun hk => by rw [h3 hk, Nat.zero_add], by show (nx (L s) s.size).1 = 0; rw [hn]⟩
  rw [Nat.zero_add, ← hz] at h2; exact h2
theorem src_len : ∀ ks : List Nat, (srcL ks).length ≤ 3 * ks.length + 1
  | [] => Nat.le_refl _
  | 0 :: r => by have := src_len r; simp only [srcL, List.length_cons, List.length_append, List.length_nil]; omega
  | 1 :: r => by have := src_len r; simp only [srcL, List.length_cons]; omega
  | (k + 2) :: r => by have := src_len r; simp only [srcL, List.length_cons, List.length_append, List.length_nil]; omega
theorem run_end {α : Type} {p : Gr α} {l : List Tk} {u : Tk} {x : α} (h : runG p l = .ok x [u]) (hu : u.k = 0) : runG (pEnd p) l = .ok x [u] := by
  unfold pEnd
  rw [run_bind h, run_look, decide_eq_true hu]; rfl
theorem nest_expr {X : Given} (hX : LibX X) {s : ByteArray} {ks : List Nat} (h : L s = srcL ks) (hk : ks.length ≤ 64) : ∃ e : TExpr, TE e ∧ Does (OrX X) 11 [vS s, vI s.size] [] (.ret (.tuple [.agg (eD e), .agg [cZ 0, cZ 0]]) []) := by
  obtain ⟨l, o, h1, h2, h3, h4⟩ := nest_whole h
  have hz : s.size = (srcL ks).length := by rw [← L_length, h]
  have hl := src_len ks
  obtain ⟨g, e, hA, hD⟩ := expr_does hX (s := s) (F := s.size) (by omega) (by omega) (l := l) (f := (0, 0)) (by rw [Int.toNat_natCast]; exact h2)
  obtain ⟨e', he⟩ := nest_ok h1 (bigN - 26) 0 (by omega) (by show 20 * ks.length ≤ 100000000 - 26; omega) ⟨_, _, rfl, .inl h4⟩
  have hr : runL (pEnd (pLine bigN 0 0)) l = .ok e' [tkAt s s.size] := by
    obtain ⟨t, r, rfl, _⟩ := nest_head h1
    exact run_end (line0_of (n := bigN - 7) he (.inl h4)) h4
  rw [hr] at hA
  obtain ⟨rfl, rfl⟩ := hA
  exact ⟨e, told_expr h2 hr, hD⟩
theorem nest_deep {X : Given} (hX : LibX X) {s : ByteArray} {ks : List Nat} (h : L s = srcL ks) (hk : ks.length = 65) : ∃ e : TExpr, Does (OrX X) 11 [vS s, vI s.size] [] (.ret (.tuple [.agg (eD e), .agg [cZ 141, cZ (lastL ks : Nat)]]) []) := by
  obtain ⟨l, o, h1, h2, h3, h4⟩ := nest_whole h
  have hne : ks ≠ [] := by intro e; rw [e] at hk; cases hk
  have hz : s.size = (srcL ks).length := by rw [← L_length, h]
  have hl := src_len ks
  obtain ⟨g, e, hA, hD⟩ := expr_does hX (s := s) (F := s.size) (by omega) (by omega) (l := l) (f := (0, 0)) (by rw [Int.toNat_natCast]; exact h2)
  obtain ⟨t, r, he, ho⟩ := nest_err h1 (bigN - 26) 0 hne (by omega) (by show 20 * ks.length ≤ 100000000 - 26; omega)
  have hr : runL (pEnd (pLine bigN 0 0)) l = .err 141 (t :: r) := by
    obtain ⟨t', r', rfl, _⟩ := nest_head h1
    exact run_bind_err (line0_err (n := bigN - 7) he)
  rw [hr] at hA
  obtain ⟨_, rfl, t', r', h5, rfl⟩ := hA
  cases h5
  rw [ho, h3 hne] at hD
  exact ⟨_, hD⟩
end Go.Proofs.YtacfbgfphkfobaaDoor.Id
/-! ## PaLawN -/
namespace Go.Proofs.YtacfbgfphkfobaaDoor.Id
open Go
set_option linter.unusedVariables false
set_option linter.unusedSimpArgs false
variable {X : Given}
def hdL (k : Nat) : List UInt8 := if k = 0 then [40] else if k = 1 then [45] else [102, 40]
def tlL (k : Nat) : List UInt8 := if k = 1 then [] else [41]
def headsL : List Nat → List UInt8
  | [] => []
  | k :: r => hdL k ++ headsL r
def tailsL : List Nat → List UInt8
  | [] => []
  | k :: r => tailsL r ++ tlL k
theorem srcL_eq : ∀ ks : List Nat, srcL ks = headsL ks ++ [49] ++ tailsL ks
  | [] => rfl
  | 0 :: r => by simp [srcL, headsL, tailsL, hdL, tlL, srcL_eq r]
  | 1 :: r => by simp [srcL, headsL, tailsL, hdL, tlL, srcL_eq r]
  | (k + 2) :: r => by simp [srcL, headsL, tailsL, hdL, tlL, srcL_eq r]
theorem heads_app (k : Nat) : ∀ p : List Nat, headsL (p ++ [k]) = headsL p ++ hdL k
  | [] => by simp [headsL]
  | a :: r => by rw [List.cons_append, headsL, headsL, heads_app k r, List.append_assoc]
theorem tails_app (k : Nat) : ∀ p : List Nat, tailsL (p ++ [k]) = tlL k ++ tailsL p
  | [] => by simp [tailsL]
  | a :: r => by rw [List.cons_append, tailsL, tailsL, tails_app k r, List.append_assoc]
theorem last_app (k : Nat) : ∀ p : List Nat, lastL (p ++ [k]) = (headsL p).length + (if 2 ≤ k then 1 else 0)
  | [] => by simp [lastL, headsL]
  | a :: [] => by
    simp only [List.cons_append, List.nil_append, lastL, headsL, List.append_nil, hdL]
    repeat' split
    all_goals simp
    all_goals omega
  | a :: b :: r => by
    have := last_app k (b :: r)
    simp only [List.cons_append, lastL, headsL, List.length_append, hdL] at this ⊢
    rw [this]
    repeat' split
    all_goals simp
    all_goals omega
theorem heads_len : ∀ p : List Nat, (headsL p).length ≤ 2 * p.length
  | [] => Nat.le_refl _
  | k :: r => by
    have := heads_len r
    simp only [headsL, List.length_append, List.length_cons, hdL]
    repeat' split
    all_goals simp
    all_goals omega
theorem tails_len : ∀ p : List Nat, (tailsL p).length ≤ p.length
  | [] => Nat.le_refl _
  | k :: r => by
    have := tails_len r
    simp only [tailsL, List.length_append, List.length_cons, tlL]
    repeat' split
    all_goals simp
    all_goals omega
def kAt (bs : List UInt8) (i : Nat) : Nat := if bs.length = 0 then 0 else (bs.getD (i % bs.length) 0).toNat % 3
def lv (bs : List UInt8) (i : Nat) : List Nat := (List.range i).map (kAt bs)
theorem lv_succ (bs : List UInt8) (i : Nat) : lv bs (i + 1) = lv bs i ++ [kAt bs i] := by simp [lv, List.range_succ]
theorem lv_len (bs : List UInt8) (i : Nat) : (lv bs i).length = i := by simp [lv]
theorem mkB_app (a b : List UInt8) : mkB a ++ mkB b = mkB (a ++ b) := L_inj (by rw [L_append, L_mkB, L_mkB, L_mkB])
theorem mkB_size (a : List UInt8) : (mkB a).size = a.length := by rw [← L_length, L_mkB]
abbrev nsSt (bs : List UInt8) (N i : Nat) : St := ⟨[(0, .d (.sl 1 (bs.map byteD))), (1, vI N), (6, vS (mkB [49])), (7, vS (mkB (tailsL (lv bs i)))), (8, vS (mkB (headsL (lv bs i)))), (9, vI (lastL (lv bs i) : Nat)), (10, vI i)], []⟩
theorem nested_loop (bs : List UInt8) (hb : bs.length ≤ 1048576) (N : Nat) (hN : N ≤ 65) (K : Ex → St → Id.T Out) (Q : Out → Prop) (hE : WP X (K (.exit 0) (nsSt bs N N)) Q) :
    ∀ (m i : Nat), i + m = N → ∀ σ : St, getT σ.t 0 = .d (.sl 1 (bs.map byteD)) → getT σ.t 1 = vI N → getT σ.t 6 = vS (mkB [49]) → getT σ.t 7 = vS (mkB (tailsL (lv bs i))) → getT σ.t 8 = vS (mkB (headsL (lv bs i))) → getT σ.t 9 = vI (lastL (lv bs i) : Nat) → getT σ.t 10 = vI i → WP X (.loop (lp Tryd.f15 0) σ K) Q
  | m, i, h, σ, g0, g1, g6, g7, g8, g9, g10 => by
    refine WP.round (nsSt bs N i) ⟨⟨.inl g0.symm, .inl g1.symm, .inl g6.symm, .inl g7.symm, .inl g8.symm, .inl g9.symm, .inl g10.symm, trivial⟩, trivial⟩ ?_
    cases m with
    | zero =>
      obtain rfl : i = N := by omega
      refine WP.iteF (by simp) ?_
      exact WP.leaf ⟨nsSt bs i i, ⟨⟨.inl rfl, .inl rfl, .inl rfl, .inl rfl, .inl rfl, .inl rfl, .inl rfl, trivial⟩, trivial⟩, hE⟩
    | succ m =>
      have l1 := heads_len (lv bs i)
      have l2 := tails_len (lv bs i)
      rw [lv_len] at l1 l2
      have hgo : ∀ σ : St, getT σ.t 0 = .d (.sl 1 (bs.map byteD)) → getT σ.t 1 = vI N → getT σ.t 6 = vS (mkB [49]) → getT σ.t 7 = vS (mkB (tailsL (lv bs (i + 1)))) → getT σ.t 8 = vS (mkB (headsL (lv bs (i + 1)))) → getT σ.t 9 = vI (lastL (lv bs (i + 1)) : Nat) → getT σ.t 10 = vI (IntKind.i64.wrap ((i : Int) + 1)) → WP X (.loop (lp Tryd.f15 0) σ K) Q := fun σ e0 e1 e6 e7 e8 e9 e10 => by
        refine nested_loop bs hb N hN K Q hE m (i + 1) (by omega) σ e0 e1 e6 e7 e8 e9 ?_
        rw [e10, wrapI (by omega) (by omega)]; rfl
      have step : ∀ k : Nat, kAt bs i = k → lv bs (i + 1) = lv bs i ++ [k] := fun k hk => by rw [lv_succ, hk]
      refine WP.iteT (by simp; omega) ?_
      by_cases hne : bs.length = 0
      · have hk : kAt bs i = 0 := by unfold kAt; rw [if_pos hne]
        refine WP.iteF (by simp [hne]) ?_
        refine WP.iteT (by simp) ?_
        refine WP.asrt (by rw [mkB_size]; show _ + 1 ≤ _; omega) ?_
        refine WP.asrt (by rw [mkB_size (tailsL (lv bs i))]; show 1 + _ ≤ _; omega) ?_
        refine WP.leaf (hgo _ rfl rfl rfl ?_ ?_ ?_ rfl)
        · show vS (mkB [41] ++ mkB (tailsL (lv bs i))) = _
          rw [step 0 hk, tails_app, mkB_app]; rfl
        · show vS (mkB (headsL (lv bs i)) ++ mkB [40]) = _
          rw [step 0 hk, heads_app, mkB_app]; rfl
        · show vI ((mkB (headsL (lv bs i))).size : Int) = _
          rw [step 0 hk, last_app, mkB_size]; rfl
      · have hm : i % bs.length < bs.length := Nat.mod_lt _ (by omega)
        have hrem : Int.tmod (i : Int) ((bs.map byteD).length : Nat) = ((i % bs.length : Nat) : Int) := by rw [List.length_map]; rfl
        have hget : (bs.map byteD)[(Int.tmod (i : Int) ((bs.map byteD).length : Nat)).toNat]? = some (byteD (bs.getD (i % bs.length) 0)) := by
          rw [hrem, Int.toNat_natCast, List.getElem?_map, List.getD_eq_getElem?_getD, List.getElem?_eq_getElem hm]; rfl
        have hkd : kAt bs i = (bs.getD (i % bs.length) 0).toNat % 3 := by unfold kAt; rw [if_neg hne]
        refine WP.iteT (by simp; omega) ?_
        refine WP.asrt (by simp only [List.length_map]; omega) ?_
        refine WP.idx _ (by rw [hrem]; exact Int.natCast_nonneg _) hget ?_
        refine WP.asrt (by decide) ?_
        generalize hc : (bs.getD (i % bs.length) 0) = c at *
        have hz : Int.tmod (c.toNat : Int) 3 = ((c.toNat % 3 : Nat) : Int) := rfl
        have h3 : c.toNat % 3 < 3 := Nat.mod_lt _ (by decide)
        by_cases k0 : c.toNat % 3 = 0
        · have hk : kAt bs i = 0 := by rw [hkd, k0]
          refine WP.iteT (decide_eq_true (by rw [hz, k0]; rfl)) ?_
          refine WP.asrt (by rw [mkB_size]; show _ + 1 ≤ _; omega) ?_
          refine WP.asrt (by rw [mkB_size (tailsL (lv bs i))]; show 1 + _ ≤ _; omega) ?_
          refine WP.leaf (hgo _ rfl rfl rfl ?_ ?_ ?_ rfl)
          · show vS (mkB [41] ++ mkB (tailsL (lv bs i))) = _
            rw [step 0 hk, tails_app, mkB_app]; rfl
          · show vS (mkB (headsL (lv bs i)) ++ mkB [40]) = _
            rw [step 0 hk, heads_app, mkB_app]; rfl
          · show vI ((mkB (headsL (lv bs i))).size : Int) = _
            rw [step 0 hk, last_app, mkB_size]; rfl
        · by_cases k1 : c.toNat % 3 = 1
          · have hk : kAt bs i = 1 := by rw [hkd, k1]
            refine WP.iteF (decide_eq_false (by rw [hz]; omega)) ?_
            refine WP.iteT (decide_eq_true (by rw [hz, k1]; rfl)) ?_
            refine WP.asrt (by rw [mkB_size]; show _ + 1 ≤ _; omega) ?_
            refine WP.leaf (hgo _ rfl rfl rfl ?_ ?_ ?_ rfl)
            · show vS (mkB (tailsL (lv bs i))) = _
              rw [step 1 hk, tails_app]; rfl
            · show vS (mkB (headsL (lv bs i)) ++ mkB [45]) = _
              rw [step 1 hk, heads_app, mkB_app]; rfl
            · show vI ((mkB (headsL (lv bs i))).size : Int) = _
              rw [step 1 hk, last_app, mkB_size]; rfl
          · have hk : kAt bs i = 2 := by rw [hkd]; omega
            refine WP.iteF (decide_eq_false (by rw [hz]; omega)) ?_
            refine WP.iteF (decide_eq_false (by rw [hz]; omega)) ?_
            refine WP.asrt (by rw [mkB_size]; show _ + 2 ≤ _; omega) ?_
            refine WP.asrt (by rw [mkB_size (tailsL (lv bs i))]; show 1 + _ ≤ _; omega) ?_
            refine WP.leaf (hgo _ rfl rfl rfl ?_ ?_ ?_ rfl)
            · show vS (mkB [41] ++ mkB (tailsL (lv bs i))) = _
              rw [step 2 hk, tails_app, mkB_app]; rfl
            · show vS (mkB (headsL (lv bs i)) ++ mkB [102, 40]) = _
              rw [step 2 hk, heads_app, mkB_app]; rfl
            · show vI (IntKind.i64.wrap (((mkB (headsL (lv bs i))).size : Int) + 1)) = _
              rw [step 2 hk, last_app, mkB_size, wrapI (by omega) (by omega)]; rfl
theorem nested_does (bs : List UInt8) (hb : bs.length ≤ 1048576) (N : Nat) (hN : N ≤ 65) : Does X 15 [.d (.sl 1 (bs.map byteD)), vI N] [] (.ret (.tuple [vS (mkB (srcL (lv bs N))), vI (lastL (lv bs N) : Nat)]) []) := by
  refine DoesQ.eq (DoesQ.of Tryd.func15 (by kernel_rfl) ?_)
  refine nested_loop bs hb N hN _ _ ?_ N 0 (by omega) _ rfl rfl rfl rfl rfl rfl rfl
  have l1 := heads_len (lv bs N)
  have l2 := tails_len (lv bs N)
  rw [lv_len] at l1 l2
  refine WP.asrt (by rw [mkB_size, mkB_size]; simp; omega) ?_
  refine WP.asrt (by rw [ByteArray.size_append, mkB_size, mkB_size, mkB_size]; simp; omega) ?_
  refine WP.leaf ?_
  rw [srcL_eq, ← mkB_app, ← mkB_app]
theorem rem80 {a : Int} (h : 0 ≤ a ∧ a ≤ 255) : ∃ i : Nat, i < 80 ∧ Int.tmod (IntKind.i64.wrap a) 80 = i := by
  rw [wrapI (by omega) (by omega)]
  obtain ⟨n, rfl⟩ := Int.eq_ofNat_of_zero_le h.1
  exact ⟨n % 80, Nat.mod_lt _ (by decide), rfl⟩
set_option maxHeartbeats 2000000 in
theorem nests_does (hX : LibX X) (bs : List UInt8) (a : Int) (hb : bs.length ≤ 1048576) (ha : 0 ≤ a ∧ a ≤ 255) : Does (OrX X) 6 [.d (.sl 1 (bs.map byteD)), .d (.int .u8 a)] [] (.ret (vB true) []) := by
  obtain ⟨i, hi, ei⟩ := rem80 ha
  have hw : IntKind.i64.wrap (Int.tmod (IntKind.i64.wrap a) 80 + 1) = ((i + 1 : Nat) : Int) := by rw [ei, wrapI (by omega) (by omega)]; rfl
  refine DoesQ.eq (DoesQ.of Tryd.func6 (by kernel_rfl) ?_)
  refine WP.asrt (by decide) ?_
  by_cases h64 : i + 1 ≤ 64
  · obtain ⟨e, hT, hE⟩ := nest_expr hX (s := mkB (srcL (lv bs (i + 1)))) (L_mkB _) (by rw [lv_len]; omega)
    have hRE := right_does (OrX.lib hX) (SizeOf.sizeOf e + 1) e (Nat.lt_succ_self _) hT.s
    rw [hT.r] at hRE
    have hn := nested_does (X := OrX X) bs hb (i + 1) (by omega)
    have hmin : (if (65 : Int) < IntKind.i64.wrap (Int.tmod (IntKind.i64.wrap a) 80 + 1) then (65 : Int) else IntKind.i64.wrap (Int.tmod (IntKind.i64.wrap a) 80 + 1)) = ((i + 1 : Nat) : Int) := by rw [hw, if_neg (by omega)]
    rw [← hmin] at hn
    refine WP.use1 hn ?_
    refine WP.use1 hE ?_
    refine WP.iteT (decide_eq_true (by rw [hw]; omega)) ?_
    repeat first | refine WP.iteT (by first | rfl | (simp; done) | (simp; omega)) ?_ | refine WP.iteF (by first | rfl | (simp; done) | (simp; omega)) ?_ | refine WP.asrt (by kernel_rfl) ?_ | refine WP.use1 none_does ?_ | refine WP.use1 (awake_does hX) ?_ | refine WP.use1 hRE ?_
    exact WP.leaf (by simp)
  · obtain ⟨e, hE⟩ := nest_deep hX (s := mkB (srcL (lv bs 65))) (L_mkB _) (by rw [lv_len])
    have hn := nested_does (X := OrX X) bs hb 65 (by omega)
    generalize lv bs 65 = ks at hn hE
    have hmin : (if (65 : Int) < IntKind.i64.wrap (Int.tmod (IntKind.i64.wrap a) 80 + 1) then (65 : Int) else IntKind.i64.wrap (Int.tmod (IntKind.i64.wrap a) 80 + 1)) = ((65 : Nat) : Int) := by
      rw [hw]; split <;> omega
    rw [← hmin] at hn
    refine WP.use1 hn ?_
    refine WP.use1 hE ?_
    refine WP.iteF (decide_eq_false (by rw [hw]; omega)) ?_
    repeat first | refine WP.iteT (by first | rfl | (simp; done) | (simp; omega)) ?_ | refine WP.iteF (by first | rfl | (simp; done) | (simp; omega)) ?_ | refine WP.asrt (by kernel_rfl) ?_ | refine WP.use1 none_does ?_ | refine WP.use1 (awake_does hX) ?_
    exact WP.leaf (by simp)
end Go.Proofs.YtacfbgfphkfobaaDoor.Id
/-! ## Bulk -/
namespace Go.Proofs.YtacfbgfphkfobaaDoor.bulks

theorem one_le {H : Type} (d : DataW H) : 1 ≤ Rows.uptoBulk d := by
  cases d with
  | lit l => cases l <;> simp [Rows.uptoBulk]
  | nil => simp [Rows.uptoBulk]
  | ptr d => simp [Rows.uptoBulk]
  | slice elems spare => simp [Rows.uptoBulk]
  | agg parts => simp [Rows.uptoBulk]
  | iface t d => simp [Rows.uptoBulk]
  | map entries => simp [Rows.uptoBulk]
  | held h => simp [Rows.uptoBulk]

/-- a part's bulk is at most the whole's -/
theorem part_le {H : Type} {d : DataW H} {l : List (DataW H)} (h : d ∈ l) : Rows.uptoBulk d ≤ Rows.uptoBulkAll l := by
  induction l with
  | nil => cases h
  | cons x r ih =>
    simp only [Rows.uptoBulkAll]
    cases List.mem_cons.1 h with
    | inl e => subst e; omega
    | inr e => have := ih e; omega

theorem append {H : Type} (l r : List (DataW H)) : Rows.uptoBulkAll (l ++ r) = Rows.uptoBulkAll l + Rows.uptoBulkAll r := by
  induction l with
  | nil => simp [Rows.uptoBulkAll]
  | cons x l ih => simp only [List.cons_append, Rows.uptoBulkAll, ih]; omega

/-- so many values at the most -/
theorem length_le {H : Type} (l : List (DataW H)) : l.length ≤ Rows.uptoBulkAll l := by
  induction l with
  | nil => simp [Rows.uptoBulkAll]
  | cons x r ih => have := one_le x; simp only [Rows.uptoBulkAll, List.length_cons]; omega

/-- a slice's places, and what they hold -/
theorem slice_le {H : Type} (elems spare : List (DataW H)) : elems.length + spare.length + 1 ≤ Rows.uptoBulk (.slice elems spare) := by
  have h1 := length_le elems
  have h2 := length_le spare
  simp only [Rows.uptoBulk]
  omega
theorem slice_elems {H : Type} (elems spare : List (DataW H)) : Rows.uptoBulkAll elems + 1 ≤ Rows.uptoBulk (.slice elems spare) := by
  simp only [Rows.uptoBulk]
  omega

/-- a string's letters -/
theorem string_eq {H : Type} (bytes : List UInt8) : Rows.uptoBulk (DataW.lit (H := H) (.string bytes)) = bytes.length + 1 := by
  simp [Rows.uptoBulk]

/-- THE BOUND, as the builder hands it over ('hk') -/
theorem bound {H : Type} {l : List (DataW H)} (hk : Rows.uptoSmall H l = true) : Rows.uptoBulkAll l ≤ 1048576 := by
  simpa [Rows.uptoSmall] using hk

/-- ROOM: a slice of n elements of b bytes, grown by append: below the 2^48 bytes that append, make and a Builder bear. Here n up to 2^21, b up to 4,096: put your own numbers. -/
theorem room {n b : Nat} (hn : n ≤ 2097152) (hb : b ≤ 4096) : (n + n / 4 + 192) * b ≤ 281474976710656 := by
  have h : (n + n / 4 + 192) * b ≤ 2621632 * 4096 := Nat.mul_le_mul (by omega) hb
  omega

end Go.Proofs.YtacfbgfphkfobaaDoor.bulks
/-! ## OpenTree -/
namespace Go.Proofs.YtacfbgfphkfobaaDoor.Id
open Go Go.ChangeShapes Go.WideShapes
set_option linter.unusedVariables false
set_option linter.unusedSimpArgs false
section
variable {H : Type} {enc : TypeId × Value → H} {w : World}
noncomputable abbrev TR (enc : TypeId × Value → H) (w : World) (n t : Nat) (cs : List Value) : Option (DataW H × List MemPlace) := DataW.trod enc Tryd.prog w 0 (fun _ => true) true n t cs
theorem seen_cell {a : Addr} {v : Value} (h : w.cell? a = some v) : (seen w).h a.block a.off = some v := by
  have hs := World.cell?_spot h
  have hl := World.block_lt_of_cell? w _ h
  obtain ⟨b, o, s⟩ := a
  simp only at hs
  subst hs
  simp only [seen]
  rw [if_pos hl]; exact h
theorem add_block (a : Addr) (n : Nat) : (a.add n).block = a.block := by unfold Addr.add; split <;> rfl
theorem add_off (a : Addr) (n : Nat) : (a.add n).off = a.off + n := by
  unfold Addr.add
  split
  · omega
  · rfl
theorem RepDs.len {h : Id.H} : ∀ {ds : List D} {cs : List Value}, RepDs h ds cs → ds.length = cs.length
  | [], cs, e => by cases e; rfl
  | x :: r, cs, ⟨v, vs, e, _, q⟩ => by subst e; simp [q.len]
/-- the elements of a row -/
theorem trod_row {α : Type} (F : α → List D) (B : α → Prop) {z t e : Nat} (hz : 0 < z) (ht : Tryd.prog.underlying t = some (.slice e)) (hc : Tryd.prog.cellsOf e = z) {fuel : Nat} {cs : List Value} {x : DataW H × List MemPlace}
    (hel : ∀ n, n < fuel → ∀ cs x, TR enc w n e cs = some x → Rows.uptoBulk x.1 ≤ 1048576 → ∃ a, RepDs (seen w).h (F a) cs ∧ B a)
    (h : TR enc w fuel t cs = some x) (hb : Rows.uptoBulk x.1 ≤ 1048576) : ∃ (l : List α) (v : Value), cs = [v] ∧ RepD (seen w).h v (.sl z (l.map F)) ∧ (∀ a ∈ l, B a) ∧ l.length ≤ 1048576 := by
  rcases DataW.trod_slice ht h with ⟨rfl, rfl⟩ | ⟨a, len, cap, elems, rest, n, hn, rfl, rfl, hba, hl, hm, hlen, hes, hsp, hns⟩
  · exact ⟨[], _, rfl, RepD.sl0 z, fun _ h => (by cases h), by simp⟩
  · have hbulk : ∀ y ∈ elems, Rows.uptoBulk y.1 ≤ 1048576 := fun y hy => by
      have h1 := bulks.part_le (List.mem_map_of_mem (f := fun (x : DataW H × List MemPlace) => x.1) hy)
      have h2 := bulks.slice_elems (elems.map (·.1)) (rest.map (·.1))
      simp only at hb; omega
    have hall : ∀ i, i < len → ∃ a0, B a0 ∧ ∃ cs, RepDs (seen w).h (F a0) cs ∧ cs.length = z ∧ ∀ q, q < z → w.cell? (a.add (i * z + q)) = cs[q]? := fun i hi => by
      have h1 := hes i hi
      rw [List.getElem?_eq_getElem (by omega), Option.bind_eq_some_iff] at h1
      obtain ⟨cs, h2, h3⟩ := h1
      obtain ⟨a0, h4, h5⟩ := hel n (by omega) cs _ h3 (hbulk _ (List.getElem_mem _))
      obtain ⟨_, h6, h7⟩ := World.cells?_some h2
      rw [hc] at h6 h7
      exact ⟨a0, h5, cs, h4, h6, fun q hq => by rw [← h7 q hq, Addr.add_add]⟩
    have hex : ∀ m, m ≤ len → ∃ l : List α, l.length = m ∧ (∀ a0 ∈ l, B a0) ∧ ∀ (j : Nat) a0, l[j]? = some a0 → ∃ cs, RepDs (seen w).h (F a0) cs ∧ cs.length = z ∧ ∀ q, q < z → w.cell? (a.add (j * z + q)) = cs[q]? := by
      intro m
      induction m with
      | zero => exact fun _ => ⟨[], rfl, fun _ h => (by cases h), fun j a0 h => (by simp at h)⟩
      | succ m ih =>
        intro hm
        obtain ⟨l, h1, h2, h3⟩ := ih (by omega)
        obtain ⟨a0, g1, cs, g2, g3, g4⟩ := hall m (by omega)
        refine ⟨l ++ [a0], by simp [h1], fun b hb => ?_, fun j b hj => ?_⟩
        · rcases List.mem_append.1 hb with h | h
          · exact h2 b h
          · rw [List.mem_singleton] at h; subst h; exact g1
        · rcases Nat.lt_or_ge j m with h | h
          · rw [List.getElem?_append_left (by omega)] at hj; exact h3 j b hj
          · rw [List.getElem?_append_right (by omega), h1] at hj
            have : j - m = 0 := by
              rcases Nat.eq_zero_or_pos (j - m) with h | h
              · exact h
              · rw [List.getElem?_eq_none (by simp; omega)] at hj; cases hj
            rw [this] at hj
            cases hj
            obtain rfl : j = m := by omega
            exact ⟨cs, g2, g3, g4⟩
    obtain ⟨l, h1, h2, h3⟩ := hex len (Nat.le_refl _)
    refine ⟨l, _, rfl, ?_, h2, ?_⟩
    · have hcell : ∀ (j : Nat) es (i : Nat) y, (l.map F)[j]? = some es → es[i]? = some y → ∃ v, w.cell? (a.add (j * z + i)) = some v ∧ RepD (seen w).h v y := fun j es i y hj hi => by
        rw [List.getElem?_map, Option.map_eq_some_iff] at hj
        obtain ⟨a0, hj, rfl⟩ := hj
        obtain ⟨cs, g1, g2, g3⟩ := h3 j a0 hj
        obtain ⟨v, g4, g5⟩ := g1.get hi
        have hiz : i < z := by
          have := (List.getElem?_eq_some_iff.1 g4).1; omega
        exact ⟨v, by rw [g3 i hiz]; exact g4, g5⟩
      have hlm : (l.map F).length = len := by simp [h1]
      rw [← hlm]
      refine RepD.sl a cap z (l.map F) (fun j i => (w.cell? (a.add (j * z + i))).getD Go.undef) (fun hne => ?_) (by omega) (fun j es hj => ?_) (fun j es i y hj hi => ?_) (fun j es i y hj hi => ?_)
      · have hlen0 : 0 < len := by
          rw [← hlm]; exact List.length_pos_iff.2 hne
        obtain ⟨a0, _, cs, _, g3, g4⟩ := hall 0 hlen0
        have g5 := g4 0 hz
        rw [List.getElem?_eq_getElem (by omega)] at g5
        have := World.cell?_spot g5
        simpa [Addr.add] using this
      · rw [List.getElem?_map, Option.map_eq_some_iff] at hj
        obtain ⟨a0, hj, rfl⟩ := hj
        obtain ⟨cs, g1, g2, _⟩ := h3 j a0 hj
        rw [g1.len, g2]
      · obtain ⟨v, g1, g2⟩ := hcell j es i y hj hi
        have := seen_cell g1
        rw [add_block, add_off] at this
        rw [g1]; exact this
      · obtain ⟨v, g1, g2⟩ := hcell j es i y hj hi
        simp only [g1, Option.getD_some]; exact g2
    · have h4 := bulks.slice_le (elems.map (·.1)) (rest.map (·.1))
      simp only [List.length_map] at h4
      simp only at hb; omega
theorem cells1 {t : Nat} (c : Tryd.prog.cellsOf t = 1) {l : List Value} {i : Nat} {v : Value} (h : (l.drop i).take (Tryd.prog.cellsOf t) = [v]) : l[i]? = some v := by
  rw [c] at h
  have h1 : ((l.drop i).take 1)[0]? = some v := by rw [h]; rfl
  simpa using h1
theorem list_eq {α : Type} : ∀ {l r : List α}, l.length = r.length → (∀ (i : Nat) v, r[i]? = some v → l[i]? = some v) → l = r
  | [], [], _, _ => rfl
  | [], _ :: _, h, _ => by simp at h
  | _ :: _, [], h, _ => by simp at h
  | a :: l, b :: r, h, g => by
    have h0 := g 0 b rfl
    have h1 := list_eq (l := l) (r := r) (by simpa using h) (fun i v hv => by simpa using g (i + 1) v (by simpa using hv))
    simp at h0
    rw [h0, h1]
set_option maxRecDepth 100000 in
theorem trod_value {n : Nat} {cs : List Value} {x : DataW H × List MemPlace} (h : TR enc w n 43 cs = some x) : ∃ v : TVal, cs = [.int .i64 v.t, .int .i64 v.i, .bool v.b, .string v.s] ∧ v.s.size ≤ Rows.uptoBulk x.1 := by
  obtain ⟨xs, n', rfl, rfl, hl, hx, hf⟩ := DataW.trod_struct Tryd.underlying43 h
  have hl4 : cs.length = 4 := by rw [hl]; kernel_rfl
  have hx4 : xs.length = 4 := hx
  obtain ⟨z0, e0, _⟩ := DataW.trod_int (k := .i64) (by kernel_rfl) ((hf 0 _ rfl).trans (List.getElem?_eq_getElem (by omega)))
  obtain ⟨z1, e1, _⟩ := DataW.trod_int (k := .i64) (by kernel_rfl) ((hf 1 _ rfl).trans (List.getElem?_eq_getElem (by omega)))
  obtain ⟨b2, e2, _⟩ := DataW.trod_bool (by kernel_rfl) ((hf 2 _ rfl).trans (List.getElem?_eq_getElem (by omega)))
  obtain ⟨s3, e3, g3, _⟩ := DataW.trod_string (by kernel_rfl) ((hf 3 _ rfl).trans (List.getElem?_eq_getElem (by omega)))
  have k0 := cells1 (by kernel_rfl) e0
  have k1 := cells1 (by kernel_rfl) e1
  have k2 := cells1 (by kernel_rfl) e2
  have k3 := cells1 (by kernel_rfl) e3
  refine ⟨⟨z0, z1, b2, s3⟩, list_eq hl4 (fun i v hv => ?_), ?_⟩
  · match i with
    | 0 => cases hv; exact k0
    | 1 => cases hv; exact k1
    | 2 => cases hv; exact k2
    | 3 => cases hv; exact k3
    | n + 4 => simp at hv
  · have h1 := bulks.part_le (List.mem_map_of_mem (f := fun (x : DataW H × List MemPlace) => x.1) (List.getElem_mem (l := xs) (n := 3) (by omega)))
    have h2 : Rows.uptoBulk (DataW.agg (xs.map (·.1))) = Rows.uptoBulkAll (xs.map (·.1)) + 1 := by rw [Rows.uptoBulk]
    rw [g3] at h1
    simp only [bulks.string_eq] at h1
    have h3 : s3.data.toList.length = s3.size := by rw [Array.length_toList]; rfl
    simp only at h1 ⊢; omega
theorem bulk_part {xs : List (DataW H × List MemPlace)} {i : Nat} (h : i < xs.length) : Rows.uptoBulk (xs[i]).1 + 1 ≤ Rows.uptoBulk (DataW.agg (xs.map (·.1))) := by
  have h1 := bulks.part_le (List.mem_map_of_mem (f := fun (x : DataW H × List MemPlace) => x.1) (List.getElem_mem h))
  have h2 : Rows.uptoBulk (DataW.agg (xs.map (·.1))) = Rows.uptoBulkAll (xs.map (·.1)) + 1 := by rw [Rows.uptoBulk]
  omega
theorem bulk_str' {x : DataW H × List MemPlace} {s : ByteArray} (h : x = (.lit (.string s.data.toList), [])) : s.size ≤ Rows.uptoBulk x.1 := by
  subst h
  simp only [bulks.string_eq]
  have h3 : s.data.toList.length = s.size := by rw [Array.length_toList]; rfl
  omega
theorem dsAll_map : ∀ l : List TExpr, dsAll l = l.map dsOf
  | [] => rfl
  | x :: r => by rw [dsAll, dsAll_map r]; rfl
theorem smEs_of : ∀ {l : List TExpr}, (∀ e ∈ l, smE e) → smEs l
  | [], _ => trivial
  | x :: r, h => ⟨h x (by simp), smEs_of fun e he => h e (by simp [he])⟩
set_option maxRecDepth 100000 in
theorem trod_expr : ∀ (n : Nat) (cs : List Value) (x : DataW H × List MemPlace), TR enc w n 47 cs = some x → Rows.uptoBulk x.1 ≤ 1048576 → ∃ e : TExpr, RepDs (seen w).h (dsOf e) cs ∧ smE e := by
  intro n
  induction n using Nat.strongRecOn with
  | ind n ih =>
  intro cs x h hb
  obtain ⟨xs, n', rfl, rfl, hl, hx, hf⟩ := DataW.trod_struct Tryd.underlying47 h
  have hl4 : cs.length = 10 := by rw [hl]; kernel_rfl
  have hx4 : xs.length = 7 := hx
  obtain ⟨z0, e0, _⟩ := DataW.trod_int (k := .i64) (by kernel_rfl) ((hf 0 _ rfl).trans (List.getElem?_eq_getElem (by omega)))
  obtain ⟨z1, e1, _⟩ := DataW.trod_int (k := .i64) (by kernel_rfl) ((hf 1 _ rfl).trans (List.getElem?_eq_getElem (by omega)))
  obtain ⟨s2, e2, g2, _⟩ := DataW.trod_string (by kernel_rfl) ((hf 2 _ rfl).trans (List.getElem?_eq_getElem (by omega)))
  obtain ⟨s3, e3, g3, _⟩ := DataW.trod_string (by kernel_rfl) ((hf 3 _ rfl).trans (List.getElem?_eq_getElem (by omega)))
  obtain ⟨v4, e4, g4⟩ := trod_value ((hf 4 _ rfl).trans (List.getElem?_eq_getElem (by omega)))
  obtain ⟨z5, e5, _⟩ := DataW.trod_int (k := .i64) (by kernel_rfl) ((hf 5 _ rfl).trans (List.getElem?_eq_getElem (by omega)))
  have b2 := bulk_part (xs := xs) (i := 2) (by omega)
  have b3 := bulk_part (xs := xs) (i := 3) (by omega)
  have b6 := bulk_part (xs := xs) (i := 6) (by omega)
  have c2 := bulk_str' g2
  have c3 := bulk_str' g3
  obtain ⟨l, v6, e6, r6, m6, k6⟩ := trod_row dsOf smE (z := 10) (e := 47) (by decide) (by kernel_rfl) (by kernel_rfl) (fun n hn cs x hx hb => ih n (by omega) cs x hx hb) ((hf 6 _ rfl).trans (List.getElem?_eq_getElem (by omega))) (by simp only at hb; omega)
  have k0 := cells1 (by kernel_rfl) e0
  have k1 := cells1 (by kernel_rfl) e1
  have k2 := cells1 (by kernel_rfl) e2
  have k3 := cells1 (by kernel_rfl) e3
  have k5 := cells1 (by kernel_rfl) e5
  have k6' := cells1 (by kernel_rfl) e6
  have k4 : ∀ i, i < 4 → cs[4 + i]? = [Value.int .i64 v4.t, .int .i64 v4.i, .bool v4.b, .string v4.s][i]? := fun i hi => by
    have e4' : (cs.drop 4).take (Tryd.prog.cellsOf 43) = _ := e4
    rw [show Tryd.prog.cellsOf 43 = 4 by kernel_rfl] at e4'
    rw [← e4', List.getElem?_take, if_pos hi, List.getElem?_drop]
  obtain rfl : cs = [.int .i64 z0, .int .i64 z1, .string s2, .string s3, .int .i64 v4.t, .int .i64 v4.i, .bool v4.b, .string v4.s, .int .i64 z5, v6] := list_eq hl4 (fun i v hv => by
    match i with
    | 0 => cases hv; exact k0
    | 1 => cases hv; exact k1
    | 2 => cases hv; exact k2
    | 3 => cases hv; exact k3
    | 4 => cases hv; exact k4 0 (by decide)
    | 5 => cases hv; exact k4 1 (by decide)
    | 6 => cases hv; exact k4 2 (by decide)
    | 7 => cases hv; exact k4 3 (by decide)
    | 8 => cases hv; exact k5
    | 9 => cases hv; exact k6'
    | n + 10 => simp at hv)
  refine ⟨.mk z0 z1 s2 s3 v4 z5 l, ?_, ?_⟩
  · refine ⟨_, _, rfl, .int _ _, _, _, rfl, .int _ _, _, _, rfl, .str _, _, _, rfl, .str _, _, _, rfl, .int _ _, _, _, rfl, .int _ _, _, _, rfl, .bool _, _, _, rfl, .str _, _, _, rfl, .int _ _, _, _, rfl, ?_, rfl⟩
    rw [dsAll_map]; exact r6
  · simp only at hb
    exact ⟨by omega, by omega, by omega, smEs_of m6⟩
theorem okWide_agg {P : Program} {r : Reach} {b0 t : Nat} {fs : Array Field} {v : Value} (ht : P.underlying t = some (.struct fs)) (h : Value.okWide P w r b0 t v) : ∃ cs : Array Value, v = .agg cs := by
  simp only [Value.okWide, ht] at h
  obtain ⟨cs, h1, _⟩ := h
  exact ⟨cs, h1⟩
/-- an argument that is a row of bytes -/
theorem trod_bytes {n t e : Nat} {cs : List Value} {x : DataW H × List MemPlace} (ht : Tryd.prog.underlying t = some (.slice e)) (he : Tryd.prog.underlying e = some (.int .u8)) (hc : Tryd.prog.cellsOf e = 1) (h : TR enc w n t cs = some x) (hb : Rows.uptoBulk x.1 ≤ 1048576) :
    ∃ (bs : List UInt8) (v : Value), cs = [v] ∧ RepD (seen w).h v (.sl 1 (bs.map byteD)) ∧ bs.length ≤ 1048576 := by
  obtain ⟨l, v, h1, h2, _, h4⟩ := trod_row byteD (fun _ => True) (by decide) ht hc (fun n _ cs x hx _ => by
    obtain ⟨z, rfl, _, hw⟩ := DataW.trod_int he hx
    simp only [Lit.wf, Bool.and_eq_true, decide_eq_true_eq] at hw
    have h0 : (0 : Int) ≤ z := hw.1
    have h1 : z ≤ 255 := hw.2
    refine ⟨UInt8.ofNat z.toNat, ⟨_, _, rfl, ?_, rfl⟩, trivial⟩
    have e : ((UInt8.ofNat z.toNat).toNat : Int) = z := by
      rw [UInt8.toNat_ofNat']; omega
    rw [e]; exact .int _ _) h hb
  exact ⟨l, v, h1, h2, h4⟩
end
end Go.Proofs.YtacfbgfphkfobaaDoor.Id
/-! ## Inv -/
namespace Go.Proofs.YtacfbgfphkfobaaDoor.P
open Go.RowKit Go.Proofs.YtacfbgfphkfobaaDoorW.PrintWords
structure Inv (w : World) : Prop where
  pow : Lib.TabIs Tryd.prog w "internal/strconv.uint64pow10" .u64 Lib.pow10Tab
  rng : ∃ ev, w.cell? ⟨2, 0, none⟩ = some ev ∧ (ev = .nilIface ∨ ∃ te pe, ev = .iface te pe)
theorem gPow : Tryd.prog.globalNamed "internal/strconv.uint64pow10" = some 3 := by kernel_rfl
theorem Inv.below {w w' : World} (h : Inv w) (hb : Below w.heap.size w w') : Inv w' := by
  constructor
  · have h1 := h.pow
    unfold Lib.TabIs World.var? at h1 ⊢
    rw [gPow] at h1 ⊢
    simp only [Option.bind_some] at h1 ⊢
    cases hc : w.heap[3]? with
    | none => rw [hc] at h1; cases h1
    | some o =>
      have hlt : 3 < w.heap.size := by
        rcases Nat.lt_or_ge 3 w.heap.size with h2 | h2
        · exact h2
        · rw [Array.getElem?_eq_none h2] at hc; cases hc
      rw [hb.block _ hlt, hc]
      rw [hc] at h1
      exact h1
  · obtain ⟨ev, h1, h2⟩ := h.rng
    refine ⟨ev, ?_, h2⟩
    have hlt := World.block_lt_of_cell? w _ h1
    rw [hb.cell hlt]; exact h1
theorem Inv.drawn {w w' : World} (h : Inv w) (hd : Drawn0 w w') : Inv w' := h.below hd.below
end Go.Proofs.YtacfbgfphkfobaaDoor.P
/-! ## Laid -/
namespace Go.Proofs.YtacfbgfphkfobaaDoor.P
open Go.RowKit
theorem gErrS : Tryd.prog.globalNamed "strconv.ErrSyntax" = some 1 := by kernel_rfl
theorem gErrR : Tryd.prog.globalNamed "strconv.ErrRange" = some 2 := by kernel_rfl
theorem starE : "*" ++ "errors.errorString" = "*errors.errorString" := by decide
theorem rowE (u : TypeId) (h : Tryd.prog.typeName? 3 u = some "*errors.errorString") : u = 164 :=
  typeName_ptr_named (nm := "errors.errorString") (by rw [starE]; kernel_rfl) (by kernel_rfl) (by decide) u (by rw [starE]; exact h)
theorem cellsOfTab : Tryd.prog.cellsOf 158 = 20 := by kernel_rfl
theorem inv_of_laid {W : World} {l0 l1 : String × DataW Unit} {r : List (String × DataW Unit)} {text : List UInt8}
    (h : laidMet Tryd.prog (l0 :: l1 :: ("internal/strconv.uint64pow10", Lib.tabData .u64 Lib.pow10Tab) :: ("strconv.ErrRange", .iface "*errors.errorString" (.ptr (.agg [.lit (.string text)]))) :: r) W) : Inv W := by
  constructor
  · exact Lib.tabIs_of_head (t := 158) (n := 20) gPow (by kernel_rfl) Tryd.underlying158 Tryd.underlying112 (by kernel_rfl) (by kernel_rfl) h.tail.tail
  · obtain ⟨a1, s1, hv1, -, -, -⟩ := laid_sentinel (ti := 133) (tp := 164) (te := 166) (ts := 9) h.tail.tail.tail gErrR (by kernel_rfl) Tryd.underlying133 rowE Tryd.underlying164 Tryd.underlying166 rfl rfl Tryd.underlying9 (by kernel_rfl) (by kernel_rfl)
    exact ⟨_, by have h0 := World.var?_cell gErrR hv1 0; simpa using h0, Or.inr ⟨_, _, rfl⟩⟩
theorem inv_of_laid1 {W : World} {l0 l1 l2 : String × DataW Unit} {r : List (String × DataW Unit)} {text : List UInt8}
    (h : laidMet Tryd.prog (l0 :: l1 :: ("internal/strconv.uint64pow10", Lib.tabData .u64 Lib.pow10Tab) :: l2 :: ("strconv.ErrRange", .iface "*errors.errorString" (.ptr (.agg [.lit (.string text)]))) :: r) W) : Inv W := by
  constructor
  · exact Lib.tabIs_of_head (t := 158) (n := 20) gPow (by kernel_rfl) Tryd.underlying158 Tryd.underlying112 (by kernel_rfl) (by kernel_rfl) h.tail.tail
  · obtain ⟨a1, s1, hv1, -, -, -⟩ := laid_sentinel (ti := 133) (tp := 164) (te := 166) (ts := 9) h.tail.tail.tail.tail gErrR (by kernel_rfl) Tryd.underlying133 rowE Tryd.underlying164 Tryd.underlying166 rfl rfl Tryd.underlying9 (by kernel_rfl) (by kernel_rfl)
    exact ⟨_, by have h0 := World.var?_cell gErrR hv1 0; simpa using h0, Or.inr ⟨_, _, rfl⟩⟩
end Go.Proofs.YtacfbgfphkfobaaDoor.P
/-! ## ShelfNum -/
namespace Go.Proofs
open Go.Shelf
def Tryd.laysM173_ren : Go.Shelf.Ren := ⟨fun | 173 => 86 | 246 => 93 | 283 => 100 | 284 => 101 | 285 => 102 | 286 => 103 | 129 => 110 | 317 => 109 | 318 => 111 | 319 => 112 | 320 => 113 | 337 => 115 | 338 => 116 | n => n, fun | 2 => 2 | 3 => 3 | 9 => 9 | 4 => 4 | 171 => 147 | 0 => 0 | 53 => 112 | 37 => 53 | 5 => 5 | 173 => 150 | 212 => 158 | 51 => 159 | 20 => 20 | 213 => 160 | 46 => 121 | 232 => 168 | 233 => 169 | n => n, fun | 17 => 3 | 18 => 4 | 19 => 5 | n => n⟩
theorem Tryd.laysM173 : Go.Proofs.LaysM.n173 Tryd.prog Tryd.laysM173_ren := {
  mixed := by kernel_rfl
  f129 := Tryd.func110.trans (congrArg some (by kernel_rfl))
  f173 := Tryd.func86.trans (congrArg some (by kernel_rfl))
  f246 := Tryd.func93.trans (congrArg some (by kernel_rfl))
  f283 := Tryd.func100.trans (congrArg some (by kernel_rfl))
  f284 := Tryd.func101.trans (congrArg some (by kernel_rfl))
  f285 := Tryd.func102.trans (congrArg some (by kernel_rfl))
  f286 := Tryd.func103.trans (congrArg some (by kernel_rfl))
  f317 := Tryd.func109.trans (congrArg some (by kernel_rfl))
  f318 := Tryd.func111.trans (congrArg some (by kernel_rfl))
  f319 := Tryd.func112.trans (congrArg some (by kernel_rfl))
  f320 := Tryd.func113.trans (congrArg some (by kernel_rfl))
  f337 := Tryd.func115.trans (congrArg some (by kernel_rfl))
  f338 := Tryd.func116.trans (congrArg some (by kernel_rfl))
  t0 := Tryd.underlying0
  a0 := Tryd.isAgg0
  z0 := Tryd.sizeOf0
  v0 := Tryd.zeroValue0
  t2 := Tryd.underlying2
  a2 := Tryd.isAgg2
  z2 := Tryd.sizeOf2
  v2 := Tryd.zeroValue2
  t3 := Tryd.underlying3
  a3 := Tryd.isAgg3
  z3 := Tryd.sizeOf3
  v3 := Tryd.zeroValue3
  t4 := Tryd.underlying4
  a4 := Tryd.isAgg4
  z4 := Tryd.sizeOf4
  v4 := Tryd.zeroValue4
  t5 := Tryd.underlying5
  a5 := Tryd.isAgg5
  z5 := Tryd.sizeOf5
  v5 := Tryd.zeroValue5
  t9 := Tryd.underlying9
  a9 := Tryd.isAgg9
  z9 := Tryd.sizeOf9
  v9 := Tryd.zeroValue9
  t20 := Tryd.underlying20
  a20 := Tryd.isAgg20
  z20 := Tryd.sizeOf20
  v20 := Tryd.zeroValue20
  t37 := Tryd.underlying53
  a37 := Tryd.isAgg53
  z37 := Tryd.sizeOf53
  v37 := Tryd.zeroValue53
  t46 := Tryd.underlying121
  a46 := Tryd.isAgg121
  z46 := Tryd.sizeOf121
  v46 := Tryd.zeroValue121
  t51 := Tryd.underlying159
  a51 := Tryd.isAgg159
  z51 := Tryd.sizeOf159
  v51 := Tryd.zeroValue159
  t53 := Tryd.underlying112
  a53 := Tryd.isAgg112
  z53 := Tryd.sizeOf112
  v53 := Tryd.zeroValue112
  t171 := Tryd.underlying147
  a171 := Tryd.isAgg147
  z171 := Tryd.sizeOf147
  v171 := Tryd.zeroValue147
  t173 := Tryd.underlying150
  a173 := Tryd.isAgg150
  z173 := Tryd.sizeOf150
  v173 := Tryd.zeroValue150
  t212 := Tryd.underlying158
  a212 := Tryd.isAgg158
  z212 := Tryd.sizeOf158
  v212 := Tryd.zeroValue158
  t213 := Tryd.underlying160
  a213 := Tryd.isAgg160
  z213 := Tryd.sizeOf160
  t232 := Tryd.underlying168
  a232 := Tryd.isAgg168
  z232 := Tryd.sizeOf168
  v232 := Tryd.zeroValue168
  t233 := Tryd.underlying169
  a233 := Tryd.isAgg169
  z233 := Tryd.sizeOf169
  v233 := Tryd.zeroValue169
  g17 := by kernel_rfl
  g18 := by kernel_rfl
  g19 := by kernel_rfl
  i0 := by kernel_rfl
  i2 := by kernel_rfl
  i3 := by kernel_rfl
  i4 := by kernel_rfl
  i5 := by kernel_rfl
  i9 := by kernel_rfl
  i20 := by kernel_rfl
  i37 := by kernel_rfl
  i46 := by kernel_rfl
  i51 := by kernel_rfl
  i53 := by kernel_rfl
  i171 := by kernel_rfl
  i173 := by kernel_rfl
  i212 := by kernel_rfl
  i232 := by kernel_rfl
  i233 := by kernel_rfl
  m17 := by kernel_rfl
  m18 := by kernel_rfl
  m19 := by kernel_rfl }
open Go.RowKit Go.Sort Go.Lib in
/-- strconv.FormatInt: "FormatInt returns the string representation of i in the given base": AT BASE 10: i's decimal numeral, for every int64. (LAID: no walk: one application.) -/
theorem Tryd.strconv_FormatInt_10 (n : Int) (h0 : -9223372036854775808 ≤ n) (h1 : n ≤ 9223372036854775807) (w : World) (htab : Lib.TabIs Tryd.prog w "internal/strconv.uint64pow10" .u64 Lib.pow10Tab) :
    Calls Tryd.prog 86 #[.int .i64 n, .int .i64 10] w fun e w' => e = .returned (.string ⟨(Lib.itoa n).toArray⟩) ∧ ∃ k os, w' = grow (w.drewN k) os := Any.strconv_FormatInt_10 Tryd.laysM173 n h0 h1 w htab
def Tryd.laysC174_ren : Go.Shelf.Ren := ⟨fun | 174 => 85 | 247 => 91 | 245 => 92 | 287 => 95 | 279 => 96 | 280 => 97 | 281 => 98 | 282 => 99 | 321 => 104 | 322 => 105 | 316 => 106 | 171 => 108 | 205 => 107 | 243 => 114 | 246 => 93 | 283 => 100 | 284 => 101 | 285 => 102 | 286 => 103 | 129 => 110 | 317 => 109 | 318 => 111 | 319 => 112 | 320 => 113 | 337 => 115 | 338 => 116 | n => n, fun | 9 => 9 | 3 => 3 | 2 => 2 | 75 => 133 | 85 => 134 | 4 => 4 | 167 => 140 | 5 => 5 | 53 => 112 | 175 => 141 | 46 => 121 | 168 => 143 | 37 => 53 | 0 => 0 | 210 => 154 | 21 => 21 | 127 => 163 | 145 => 166 | 143 => 164 | 171 => 147 | 173 => 150 | 212 => 158 | 51 => 159 | 20 => 20 | 213 => 160 | 232 => 168 | 233 => 169 | 80 => 170 | n => n, fun | 15 => 1 | 16 => 2 | 17 => 3 | 18 => 4 | 19 => 5 | n => n⟩
theorem Tryd.laysC174 : Go.Proofs.LaysC.n174 Tryd.prog Tryd.laysC174_ren := {
  mixed := by kernel_rfl
  f129 := Tryd.func110.trans (congrArg some (by kernel_rfl))
  f171 := Tryd.func108.trans (congrArg some (by kernel_rfl))
  f174 := Tryd.func85.trans (congrArg some (by kernel_rfl))
  f205 := Tryd.func107.trans (congrArg some (by kernel_rfl))
  f243 := Tryd.func114.trans (congrArg some (by kernel_rfl))
  f245 := Tryd.func92.trans (congrArg some (by kernel_rfl))
  f246 := Tryd.func93.trans (congrArg some (by kernel_rfl))
  f247 := Tryd.func91.trans (congrArg some (by kernel_rfl))
  f279 := Tryd.func96.trans (congrArg some (by kernel_rfl))
  f280 := Tryd.func97.trans (congrArg some (by kernel_rfl))
  f281 := Tryd.func98.trans (congrArg some (by kernel_rfl))
  f282 := Tryd.func99.trans (congrArg some (by kernel_rfl))
  f283 := Tryd.func100.trans (congrArg some (by kernel_rfl))
  f284 := Tryd.func101.trans (congrArg some (by kernel_rfl))
  f285 := Tryd.func102.trans (congrArg some (by kernel_rfl))
  f286 := Tryd.func103.trans (congrArg some (by kernel_rfl))
  f287 := Tryd.func95.trans (congrArg some (by kernel_rfl))
  f316 := Tryd.func106.trans (congrArg some (by kernel_rfl))
  f317 := Tryd.func109.trans (congrArg some (by kernel_rfl))
  f318 := Tryd.func111.trans (congrArg some (by kernel_rfl))
  f319 := Tryd.func112.trans (congrArg some (by kernel_rfl))
  f320 := Tryd.func113.trans (congrArg some (by kernel_rfl))
  f321 := Tryd.func104.trans (congrArg some (by kernel_rfl))
  f322 := Tryd.func105.trans (congrArg some (by kernel_rfl))
  f337 := Tryd.func115.trans (congrArg some (by kernel_rfl))
  f338 := Tryd.func116.trans (congrArg some (by kernel_rfl))
  t0 := Tryd.underlying0
  a0 := Tryd.isAgg0
  z0 := Tryd.sizeOf0
  v0 := Tryd.zeroValue0
  t2 := Tryd.underlying2
  a2 := Tryd.isAgg2
  z2 := Tryd.sizeOf2
  v2 := Tryd.zeroValue2
  t3 := Tryd.underlying3
  a3 := Tryd.isAgg3
  z3 := Tryd.sizeOf3
  v3 := Tryd.zeroValue3
  t4 := Tryd.underlying4
  a4 := Tryd.isAgg4
  z4 := Tryd.sizeOf4
  v4 := Tryd.zeroValue4
  t5 := Tryd.underlying5
  a5 := Tryd.isAgg5
  z5 := Tryd.sizeOf5
  v5 := Tryd.zeroValue5
  t9 := Tryd.underlying9
  a9 := Tryd.isAgg9
  z9 := Tryd.sizeOf9
  v9 := Tryd.zeroValue9
  t20 := Tryd.underlying20
  a20 := Tryd.isAgg20
  z20 := Tryd.sizeOf20
  v20 := Tryd.zeroValue20
  t21 := Tryd.underlying21
  a21 := Tryd.isAgg21
  z21 := Tryd.sizeOf21
  v21 := Tryd.zeroValue21
  t37 := Tryd.underlying53
  a37 := Tryd.isAgg53
  z37 := Tryd.sizeOf53
  v37 := Tryd.zeroValue53
  t46 := Tryd.underlying121
  a46 := Tryd.isAgg121
  z46 := Tryd.sizeOf121
  v46 := Tryd.zeroValue121
  t51 := Tryd.underlying159
  a51 := Tryd.isAgg159
  z51 := Tryd.sizeOf159
  v51 := Tryd.zeroValue159
  t53 := Tryd.underlying112
  a53 := Tryd.isAgg112
  z53 := Tryd.sizeOf112
  v53 := Tryd.zeroValue112
  t75 := Tryd.underlying133
  a75 := Tryd.isAgg133
  z75 := Tryd.sizeOf133
  v75 := Tryd.zeroValue133
  t85 := Tryd.underlying134
  a85 := Tryd.isAgg134
  z85 := Tryd.sizeOf134
  v85 := Tryd.zeroValue134
  t127 := Tryd.underlying163
  a127 := Tryd.isAgg163
  z127 := Tryd.sizeOf163
  v127 := Tryd.zeroValue163
  t143 := Tryd.underlying164
  a143 := Tryd.isAgg164
  z143 := Tryd.sizeOf164
  v143 := Tryd.zeroValue164
  t145 := Tryd.underlying166
  a145 := Tryd.isAgg166
  z145 := Tryd.sizeOf166
  v145 := Tryd.zeroValue166
  t167 := Tryd.underlying140
  a167 := Tryd.isAgg140
  z167 := Tryd.sizeOf140
  v167 := Tryd.zeroValue140
  t168 := Tryd.underlying143
  a168 := Tryd.isAgg143
  z168 := Tryd.sizeOf143
  v168 := Tryd.zeroValue143
  t171 := Tryd.underlying147
  a171 := Tryd.isAgg147
  z171 := Tryd.sizeOf147
  v171 := Tryd.zeroValue147
  t173 := Tryd.underlying150
  a173 := Tryd.isAgg150
  z173 := Tryd.sizeOf150
  v173 := Tryd.zeroValue150
  t175 := Tryd.underlying141
  a175 := Tryd.isAgg141
  z175 := Tryd.sizeOf141
  v175 := Tryd.zeroValue141
  t210 := Tryd.underlying154
  a210 := Tryd.isAgg154
  z210 := Tryd.sizeOf154
  v210 := Tryd.zeroValue154
  t212 := Tryd.underlying158
  a212 := Tryd.isAgg158
  z212 := Tryd.sizeOf158
  v212 := Tryd.zeroValue158
  t213 := Tryd.underlying160
  a213 := Tryd.isAgg160
  z213 := Tryd.sizeOf160
  t232 := Tryd.underlying168
  a232 := Tryd.isAgg168
  z232 := Tryd.sizeOf168
  v232 := Tryd.zeroValue168
  t233 := Tryd.underlying169
  a233 := Tryd.isAgg169
  z233 := Tryd.sizeOf169
  v233 := Tryd.zeroValue169
  g15 := by kernel_rfl
  g16 := by kernel_rfl
  g17 := by kernel_rfl
  g18 := by kernel_rfl
  g19 := by kernel_rfl
  t80 := Tryd.underlying170
  a80 := Tryd.isAgg170
  z80 := Tryd.sizeOf170
  v80 := Tryd.zeroValue170
  i0 := by kernel_rfl
  i2 := by kernel_rfl
  i3 := by kernel_rfl
  i4 := by kernel_rfl
  i5 := by kernel_rfl
  i9 := by kernel_rfl
  i20 := by kernel_rfl
  i21 := by kernel_rfl
  i37 := by kernel_rfl
  i46 := by kernel_rfl
  i51 := by kernel_rfl
  i53 := by kernel_rfl
  i75 := by kernel_rfl
  i80 := by kernel_rfl
  i85 := by kernel_rfl
  i127 := by kernel_rfl
  i143 := by kernel_rfl
  i145 := by kernel_rfl
  i167 := by kernel_rfl
  i168 := by kernel_rfl
  i171 := by kernel_rfl
  i173 := by kernel_rfl
  i175 := by kernel_rfl
  i210 := by kernel_rfl
  i212 := by kernel_rfl
  i232 := by kernel_rfl
  i233 := by kernel_rfl
  m15 := by kernel_rfl
  m16 := by kernel_rfl
  m17 := by kernel_rfl
  m18 := by kernel_rfl
  m19 := by kernel_rfl
  c0 := by kernel_rfl
  c2 := by kernel_rfl
  c3 := by kernel_rfl
  c4 := by kernel_rfl
  c5 := by kernel_rfl
  c9 := by kernel_rfl
  c20 := by kernel_rfl
  c21 := by kernel_rfl
  c37 := by kernel_rfl
  c46 := by kernel_rfl
  c51 := by kernel_rfl
  c53 := by kernel_rfl
  c75 := by kernel_rfl
  c80 := by kernel_rfl
  c85 := by kernel_rfl
  c127 := by kernel_rfl
  c143 := by kernel_rfl
  c145 := by kernel_rfl
  c167 := by kernel_rfl
  c168 := by kernel_rfl
  c171 := by kernel_rfl
  c173 := by kernel_rfl
  c175 := by kernel_rfl
  c210 := by kernel_rfl
  c212 := by kernel_rfl
  c213 := by kernel_rfl
  c232 := by kernel_rfl
  c233 := by kernel_rfl }
open Go.RowKit in
/-- strconv.ParseInt(s, 10, 0), AT EVERY STRING THAT SPELLS AN int64 ('Lib.parseIntB 64 s.data.toList = .ok v'): v, AND NO ERROR. (LAID: no walk: one application.) -/
theorem Tryd.strconv_ParseInt_10_at0_ok (s : ByteArray) (hmax : s.size ≤ 9223372036854775806) (v : Int) (h : Lib.parseIntB 64 s.data.toList = .ok v) (w : World) :
    Calls Tryd.prog 85 #[.string s, .int .i64 10, .int .i64 0] w fun e w' => e = .returned (.tuple #[.int .i64 v, .nilIface]) ∧ (w' = w ∨ ∃ t, w' = Lib.bytesWorld w 5 t) := Any.strconv_ParseInt_10_at0_ok Tryd.laysC174 s hmax v h w
open Go.RowKit in
/-- strconv.ParseInt(s, 10, 0), AT EVERY NUMERAL THAT NO int64 HOLDS: THE GREATEST OR THE LEAST int64, BY THE SIGN ('Lib.intSat 64'), AND AN ERROR THAT IS NOT nil: a *NumError in a new block N: {Func: "ParseInt", Num: s's bytes, Err: what the variable ErrRange holds}. Of what was there nothing has turned. (LAID: no walk: one application.) -/
theorem Tryd.strconv_ParseInt_10_at0_range (s : ByteArray) (hlim : s.size ≤ 281474976710656) (h : Lib.parseIntB 64 s.data.toList = .range) (ev : Value) (w : World) (hv : w.cell? ⟨2, 0, none⟩ = some ev) (hev : ev = .nilIface ∨ ∃ te pe, ev = .iface te pe) :
    Calls Tryd.prog 85 #[.string s, .int .i64 10, .int .i64 0] w fun e w' => ∃ N, e = .returned (.tuple #[.int .i64 (Lib.intSat 64 s.data.toList), .iface 143 (.pointer (some ⟨N, 0, none⟩))]) ∧ w.heap.size ≤ N ∧ w'.heap[N]? = some (.cells #[.string ⟨#[80, 97, 114, 115, 101, 73, 110, 116]⟩, .string s, ev] 154 (0, 0)) ∧ Below w.heap.size w w' := Any.strconv_ParseInt_10_at0_range Tryd.laysC174 s hlim h ev w hv hev
open Go.RowKit in
/-- strconv.ParseInt(s, 10, 64), AT EVERY STRING THAT SPELLS AN int64 ('Lib.parseIntB 64 s.data.toList = .ok v'): v, AND NO ERROR. (LAID: no walk: one application.) -/
theorem Tryd.strconv_ParseInt_10_at64_ok (s : ByteArray) (hmax : s.size ≤ 9223372036854775806) (v : Int) (h : Lib.parseIntB 64 s.data.toList = .ok v) (w : World) :
    Calls Tryd.prog 85 #[.string s, .int .i64 10, .int .i64 64] w fun e w' => e = .returned (.tuple #[.int .i64 v, .nilIface]) ∧ (w' = w ∨ ∃ t, w' = Lib.bytesWorld w 5 t) := Any.strconv_ParseInt_10_at64_ok Tryd.laysC174 s hmax v h w
open Go.RowKit in
/-- strconv.ParseInt(s, 10, 64), AT EVERY NUMERAL THAT NO int64 HOLDS: THE GREATEST OR THE LEAST int64, BY THE SIGN ('Lib.intSat 64'), AND AN ERROR THAT IS NOT nil: a *NumError in a new block N: {Func: "ParseInt", Num: s's bytes, Err: what the variable ErrRange holds}. Of what was there nothing has turned. (LAID: no walk: one application.) -/
theorem Tryd.strconv_ParseInt_10_at64_range (s : ByteArray) (hlim : s.size ≤ 281474976710656) (h : Lib.parseIntB 64 s.data.toList = .range) (ev : Value) (w : World) (hv : w.cell? ⟨2, 0, none⟩ = some ev) (hev : ev = .nilIface ∨ ∃ te pe, ev = .iface te pe) :
    Calls Tryd.prog 85 #[.string s, .int .i64 10, .int .i64 64] w fun e w' => ∃ N, e = .returned (.tuple #[.int .i64 (Lib.intSat 64 s.data.toList), .iface 143 (.pointer (some ⟨N, 0, none⟩))]) ∧ w.heap.size ≤ N ∧ w'.heap[N]? = some (.cells #[.string ⟨#[80, 97, 114, 115, 101, 73, 110, 116]⟩, .string s, ev] 154 (0, 0)) ∧ Below w.heap.size w w' := Any.strconv_ParseInt_10_at64_range Tryd.laysC174 s hlim h ev w hv hev
open Go.RowKit in
/-- strconv.ParseInt(s, 10, 32), AT EVERY STRING THAT SPELLS AN int32 ('Lib.parseIntB 32 s.data.toList = .ok v'): v, AND NO ERROR. (LAID: no walk: one application.) -/
theorem Tryd.strconv_ParseInt_10_at32_ok (s : ByteArray) (hmax : s.size ≤ 9223372036854775806) (v : Int) (h : Lib.parseIntB 32 s.data.toList = .ok v) (w : World) :
    Calls Tryd.prog 85 #[.string s, .int .i64 10, .int .i64 32] w fun e w' => e = .returned (.tuple #[.int .i64 v, .nilIface]) ∧ (w' = w ∨ ∃ t, w' = Lib.bytesWorld w 5 t) := Any.strconv_ParseInt_10_at32_ok Tryd.laysC174 s hmax v h w
open Go.RowKit in
/-- strconv.ParseInt(s, 10, 32), AT EVERY NUMERAL THAT NO int32 HOLDS: THE GREATEST OR THE LEAST int32, BY THE SIGN ('Lib.intSat 32'), AND AN ERROR THAT IS NOT nil: a *NumError in a new block N: {Func: "ParseInt", Num: s's bytes, Err: what the variable ErrRange holds}. Of what was there nothing has turned. (LAID: no walk: one application.) -/
theorem Tryd.strconv_ParseInt_10_at32_range (s : ByteArray) (hlim : s.size ≤ 281474976710656) (h : Lib.parseIntB 32 s.data.toList = .range) (ev : Value) (w : World) (hv : w.cell? ⟨2, 0, none⟩ = some ev) (hev : ev = .nilIface ∨ ∃ te pe, ev = .iface te pe) :
    Calls Tryd.prog 85 #[.string s, .int .i64 10, .int .i64 32] w fun e w' => ∃ N, e = .returned (.tuple #[.int .i64 (Lib.intSat 32 s.data.toList), .iface 143 (.pointer (some ⟨N, 0, none⟩))]) ∧ w.heap.size ≤ N ∧ w'.heap[N]? = some (.cells #[.string ⟨#[80, 97, 114, 115, 101, 73, 110, 116]⟩, .string s, ev] 154 (0, 0)) ∧ Below w.heap.size w w' := Any.strconv_ParseInt_10_at32_range Tryd.laysC174 s hlim h ev w hv hev
open Go.RowKit in
/-- strconv.ParseInt(s, 10, 16), AT EVERY STRING THAT SPELLS AN int16 ('Lib.parseIntB 16 s.data.toList = .ok v'): v, AND NO ERROR. (LAID: no walk: one application.) -/
theorem Tryd.strconv_ParseInt_10_at16_ok (s : ByteArray) (hmax : s.size ≤ 9223372036854775806) (v : Int) (h : Lib.parseIntB 16 s.data.toList = .ok v) (w : World) :
    Calls Tryd.prog 85 #[.string s, .int .i64 10, .int .i64 16] w fun e w' => e = .returned (.tuple #[.int .i64 v, .nilIface]) ∧ (w' = w ∨ ∃ t, w' = Lib.bytesWorld w 5 t) := Any.strconv_ParseInt_10_at16_ok Tryd.laysC174 s hmax v h w
open Go.RowKit in
/-- strconv.ParseInt(s, 10, 16), AT EVERY NUMERAL THAT NO int16 HOLDS: THE GREATEST OR THE LEAST int16, BY THE SIGN ('Lib.intSat 16'), AND AN ERROR THAT IS NOT nil: a *NumError in a new block N: {Func: "ParseInt", Num: s's bytes, Err: what the variable ErrRange holds}. Of what was there nothing has turned. (LAID: no walk: one application.) -/
theorem Tryd.strconv_ParseInt_10_at16_range (s : ByteArray) (hlim : s.size ≤ 281474976710656) (h : Lib.parseIntB 16 s.data.toList = .range) (ev : Value) (w : World) (hv : w.cell? ⟨2, 0, none⟩ = some ev) (hev : ev = .nilIface ∨ ∃ te pe, ev = .iface te pe) :
    Calls Tryd.prog 85 #[.string s, .int .i64 10, .int .i64 16] w fun e w' => ∃ N, e = .returned (.tuple #[.int .i64 (Lib.intSat 16 s.data.toList), .iface 143 (.pointer (some ⟨N, 0, none⟩))]) ∧ w.heap.size ≤ N ∧ w'.heap[N]? = some (.cells #[.string ⟨#[80, 97, 114, 115, 101, 73, 110, 116]⟩, .string s, ev] 154 (0, 0)) ∧ Below w.heap.size w w' := Any.strconv_ParseInt_10_at16_range Tryd.laysC174 s hlim h ev w hv hev
open Go.RowKit in
/-- strconv.ParseInt(s, 10, 8), AT EVERY STRING THAT SPELLS AN int8 ('Lib.parseIntB 8 s.data.toList = .ok v'): v, AND NO ERROR. (LAID: no walk: one application.) -/
theorem Tryd.strconv_ParseInt_10_at8_ok (s : ByteArray) (hmax : s.size ≤ 9223372036854775806) (v : Int) (h : Lib.parseIntB 8 s.data.toList = .ok v) (w : World) :
    Calls Tryd.prog 85 #[.string s, .int .i64 10, .int .i64 8] w fun e w' => e = .returned (.tuple #[.int .i64 v, .nilIface]) ∧ (w' = w ∨ ∃ t, w' = Lib.bytesWorld w 5 t) := Any.strconv_ParseInt_10_at8_ok Tryd.laysC174 s hmax v h w
open Go.RowKit in
/-- strconv.ParseInt(s, 10, 8), AT EVERY NUMERAL THAT NO int8 HOLDS: THE GREATEST OR THE LEAST int8, BY THE SIGN ('Lib.intSat 8'), AND AN ERROR THAT IS NOT nil: a *NumError in a new block N: {Func: "ParseInt", Num: s's bytes, Err: what the variable ErrRange holds}. Of what was there nothing has turned. (LAID: no walk: one application.) -/
theorem Tryd.strconv_ParseInt_10_at8_range (s : ByteArray) (hlim : s.size ≤ 281474976710656) (h : Lib.parseIntB 8 s.data.toList = .range) (ev : Value) (w : World) (hv : w.cell? ⟨2, 0, none⟩ = some ev) (hev : ev = .nilIface ∨ ∃ te pe, ev = .iface te pe) :
    Calls Tryd.prog 85 #[.string s, .int .i64 10, .int .i64 8] w fun e w' => ∃ N, e = .returned (.tuple #[.int .i64 (Lib.intSat 8 s.data.toList), .iface 143 (.pointer (some ⟨N, 0, none⟩))]) ∧ w.heap.size ≤ N ∧ w'.heap[N]? = some (.cells #[.string ⟨#[80, 97, 114, 115, 101, 73, 110, 116]⟩, .string s, ev] 154 (0, 0)) ∧ Below w.heap.size w w' := Any.strconv_ParseInt_10_at8_range Tryd.laysC174 s hlim h ev w hv hev
end Go.Proofs
/-! ## LibWhole -/
namespace Go.Proofs.YtacfbgfphkfobaaDoor.P
open Go.RowKit Go.Proofs.YtacfbgfphkfobaaDoorW.PrintWords Go.Proofs.YtacfbgfphkfobaaDoorW.PrintLast Go.Proofs.YtacfbgfphkfobaaDoorW.PrintMore
attribute [local go_sem] max2_int min2_int max_two min_two max_three min_three max_four min_four   -- for this text's walks alone
set_option linter.unusedVariables false
set_option linter.unusedSimpArgs false
def isDigit (c : Int) : Bool := decide (48 ≤ c) && decide (c ≤ 57)
/-- of a text that begins with a digit: the number, and whether it is one that may be -/
def lex_whole.f (a0 : ByteArray) : Option (Int × Bool) :=
  match a0.data.toList with
  | [] => none
  | c :: _ => if isDigit (c.toNat : Int) = true ∧ a0.size ≤ 1099511627776 then
      match Lib.parseIntB 64 a0.data.toList with
      | .ok v => some (v, decide (Lib.itoa v = a0.data.toList))
      | .range => some (9223372036854775807, false)
      | _ => none
    else none


theorem digit_calls' (c : Int) (w : World) : Calls Tryd.prog 74 #[.int .u8 c] w fun e w' => e = .returned (.bool (isDigit c)) ∧ w' = w := by
  unfold isDigit
  by_cases h : 48 ≤ c <;> by_cases h' : c ≤ 57
  all_goals
    first | have h1 : decide (48 ≤ c) = true := decide_eq_true h | have h1 : decide (48 ≤ c) = false := decide_eq_false h
    first | have h2 : decide (c ≤ 57) = true := decide_eq_true h' | have h2 : decide (c ≤ 57) = false := decide_eq_false h'
    rw [h1, h2]
    clear h h'
    go_enter Tryd.func74, Tryd.ntmps74
    go_wp2
    go_ret
    exact ⟨by first | rfl | simp, rfl⟩
theorem parse_ok (s : ByteArray) (v : Int) (hs : s.size ≤ 1099511627776) (h : Lib.parseIntB 64 s.data.toList = .ok v) (w : World) :
    Calls Tryd.prog 85 #[.string s, .int .i64 10, .int .i64 64] w fun e w' => e = .returned (.tuple #[.int .i64 v, .nilIface]) ∧ Below w.heap.size w w' :=
  (Tryd.strconv_ParseInt_10_at64_ok s (by omega) v h w).mono fun e w' ⟨he, hw⟩ => ⟨he, by
    rcases hw with rfl | ⟨t, rfl⟩
    · exact Below.refl _ _
    · exact ⟨rfl, rfl, rfl, by rw [Lib.bytesWorld_size]; omega, fun j hj => Lib.bytesWorld_at_old w _ t j hj⟩⟩
theorem parse_range (s : ByteArray) (hs : s.size ≤ 1099511627776) (h : Lib.parseIntB 64 s.data.toList = .range) (c : UInt8) (r : List UInt8) (hl : s.data.toList = c :: r) (hd : isDigit (c.toNat : Int) = true) (w : World) (hI : Inv w) :
    Calls Tryd.prog 85 #[.string s, .int .i64 10, .int .i64 64] w fun e w' => (∃ t p, e = .returned (.tuple #[.int .i64 9223372036854775807, .iface t (.pointer (some p))])) ∧ Below w.heap.size w w' := by
  obtain ⟨ev, h1, h2⟩ := hI.rng
  have e1 : Lib.intSat 64 s.data.toList = 9223372036854775807 := by
    rw [hl]
    unfold Lib.intSat
    rw [if_neg]
    · rfl
    · simp only [List.head?_cons, Option.map_some, Option.some.injEq]
      intro hc
      unfold isDigit at hd
      simp only [Bool.and_eq_true, decide_eq_true_eq] at hd
      omega
  refine (Tryd.strconv_ParseInt_10_at64_range s (by omega) h ev w h1 h2).mono fun e w' ⟨N, he, _, _, hb⟩ => ?_
  rw [e1] at he
  exact ⟨⟨_, _, he⟩, hb⟩
theorem format_ok (v : Int) (h0 : -9223372036854775808 ≤ v) (h1 : v ≤ 9223372036854775807) (w : World) (hI : Inv w) :
    Calls Tryd.prog 86 #[.int .i64 v, .int .i64 10] w fun e w' => e = .returned (.string ⟨(Lib.itoa v).toArray⟩) ∧ Below w.heap.size w w' :=
  (Tryd.strconv_FormatInt_10 v h0 h1 w hI.pow).mono fun e w' ⟨he, k, os, hw⟩ => ⟨he, by
    rw [hw]
    have h2 : Below w.heap.size w (w.drewN k) := pw_below_drewN (Below.refl _ _) _
    refine h2.trans ?_
    exact ⟨rfl, rfl, rfl, by show (w.drewN k).heap.size ≤ ((w.drewN k).heap ++ os).size; rw [Array.size_append]; omega, fun j hj => by show ((w.drewN k).heap ++ os)[j]? = _; exact Array.getElem?_append_left hj⟩⟩
theorem parseIntB_range {l : List UInt8} {v : Int} (h : Lib.parseIntB 64 l = .ok v) : -9223372036854775808 ≤ v ∧ v ≤ 9223372036854775807 := by
  unfold Lib.parseIntB at h
  cases l with
  | nil => cases h
  | cons c r =>
    simp only at h
    split at h
    · cases h
    · cases h
    · rename_i u hu
      repeat' split at h
      all_goals first | (cases h; omega) | (simp at h; omega) | cases h
set_option maxHeartbeats 4000000 in
set_option maxRecDepth 100000 in
theorem lex_whole.calls (a0 : ByteArray) (r1 : Int) (r2 : Bool) (w : World) (h : lex_whole.f a0 = some (r1, r2)) (hI : Inv w) :
    Calls Tryd.prog 76 #[.string a0] w fun e w' => e = .returned (.tuple #[.int .i64 r1, .bool r2]) ∧ Below w.heap.size w w' := by
  unfold lex_whole.f at h
  cases hl : a0.data.toList with
  | nil => rw [hl] at h; cases h
  | cons c r =>
    rw [hl] at h
    dsimp only at h
    split at h
    · rename_i hc
      obtain ⟨hd, hs⟩ := hc
      have HI := Aside0.mk hI
      clear hI
      have HB := Aside0.mk (Below.refl w.heap.size w)
      cases hp : Lib.parseIntB 64 (c :: r) with
      | range =>
        rw [hp] at h
        cases h
        have HP := Lib.hid (parse_range a0 hs (by rw [hl]; exact hp) c r hl hd)
        clear hl hp hd hs
        go_enter Tryd.func76, Tryd.ntmps76
        go_wp2_with (go_at_call 85; refine (HP.out _ HI.out).mono ?_; rintro e w' ⟨⟨t, p, rfl⟩, hb⟩; have HB2 := Aside0.mk hb; clear hb)
        go_ret2
        exact ⟨rfl, HB2.out⟩
      | ok v =>
        rw [hp] at h
        dsimp only at h
        obtain ⟨hv0, hv1⟩ := parseIntB_range hp
        have HP := Lib.hid (parse_ok a0 v hs (by rw [hl]; exact hp))
        have h0 : 0 < a0.size := by
          have : a0.data.toList.length = a0.size := by obtain ⟨⟨l⟩⟩ := a0; rfl
          rw [hl] at this; simp at this; omega
        have hb0 : bt a0 0 = (c.toNat : Int) := by
          obtain ⟨⟨l⟩⟩ := a0
          simp only at hl
          subst hl
          unfold bt
          rw [dif_pos (show Int.toNat 0 < (⟨⟨c :: r⟩⟩ : ByteArray).size from h0)]; rfl
        have HD := Lib.hid (show isDigit (bt a0 0) = true by rw [hb0]; exact hd)
        have HF := Lib.hid (format_ok v hv0 hv1)
        have hx3 : ∀ h : 0 < a0.size, ((a0[0]'h).toNat : Int) = bt a0 0 := bt_at a0 0
        have qi3 : (0 < (a0.size : Int)) = True := eq_true (by omega)
        replace h0 := eq_true h0
        obtain ⟨h, hr2⟩ : r1 = v ∧ r2 = decide (Lib.itoa v = c :: r) := by
          injection h with h; injection h with h h'; exact ⟨h.symm, h'.symm⟩
        subst h
        by_cases he : Lib.itoa r1 = c :: r
        · have e1 : (Lib.itoa r1 == a0.toList) = true := by
            rw [beq_iff_eq, ByteArray.toList_eq, hl]; exact he
          rw [decide_eq_true he] at hr2
          subst hr2
          clear hl hp hd hs hb0 he hv0 hv1
          go_enter Tryd.func76, Tryd.ntmps76
          go_wp2_with (first
            | (go_at_call 85; refine (HP.out _).mono ?_; rintro e w' ⟨rfl, hb⟩; have HB2 := Aside0.mk hb; clear hb)
            | (go_at_call 86; refine (HF.out _ (Inv.below HI.out HB2.out)).mono ?_; rintro e w2 ⟨rfl, hb⟩; have HB3 := Aside0.mk (HB2.out.trans (hb.mono (below_size HB2.out))); clear hb)
            | (go_at_call 74; refine (digit_calls' _ _).mono ?_; rintro e w' ⟨rfl, rfl⟩; rw [HD.out]))
          go_ret2
          exact ⟨rfl, HB3.out⟩
        · have e1 : (Lib.itoa r1 == a0.toList) = false := by
            rw [beq_eq_false_iff_ne, ByteArray.toList_eq, hl]
            exact he
          rw [decide_eq_false he] at hr2
          subst hr2
          clear hl hp hd hs hb0 he hv0 hv1
          go_enter Tryd.func76, Tryd.ntmps76
          go_wp2_with (first
            | (go_at_call 85; refine (HP.out _).mono ?_; rintro e w' ⟨rfl, hb⟩; have HB2 := Aside0.mk hb; clear hb)
            | (go_at_call 86; refine (HF.out _ (Inv.below HI.out HB2.out)).mono ?_; rintro e w2 ⟨rfl, hb⟩; have HB3 := Aside0.mk (HB2.out.trans (hb.mono (below_size HB2.out))); clear hb)
            | (go_at_call 74; refine (digit_calls' _ _).mono ?_; rintro e w' ⟨rfl, rfl⟩; rw [HD.out]))
          go_ret2
          exact ⟨rfl, HB3.out⟩
      | _ => rw [hp] at h; cases h
    · cases h


def stringslite_IndexByte.f (a0 : ByteArray) (a1 : Int) : Option (Int) := some (Lib.indexByte a0.data.toList a1.toNat.toUInt8)


set_option maxHeartbeats 1000000 in
set_option maxRecDepth 100000 in
theorem stringslite_IndexByte.calls (a0 : ByteArray) (a1 : Int) (r : Int) (w : World) (h : stringslite_IndexByte.f a0 a1 = some r) :
    Calls Tryd.prog 87 #[.string a0, .int .u8 a1] w fun e w' => e = .returned (.int .i64 r) ∧ Drawn0 w w' := by
  obtain rfl := Option.some.inj h
  go_enter Tryd.func87, Tryd.ntmps87
  go_wp2
  rw [run_callFunc_extern Tryd.func94 (by kernel_rfl) (by kernel_rfl) (by kernel_rfl) (e := Extern.BytealgIndexByte.indexByte) (by kernel_rfl), Lib.run_indexByteString]
  simp only [Result.andThen]
  rw [Oper.upon_value]
  go_wp2
  go_ret
  exact ⟨rfl, Drawn0.refl _⟩


end Go.Proofs.YtacfbgfphkfobaaDoor.P
/-! ## LibOk -/
namespace Go.Proofs.YtacfbgfphkfobaaDoor.Id
open Go
set_option linter.unusedVariables false
set_option linter.unusedSimpArgs false
section
variable {I : World → Prop} {B0 : Nat} {M : Nat → Prop} {x : Aux} {w w' : World}
theorem WSim.below (S : WSim I B0 M x [] w) (hI : Stable I B0) (hb : Go.RowKit.Below w.heap.size w w') : WSim I B0 M x [] w' :=
  { inv := hI w w' (fun k hk => by
      rcases Nat.lt_or_ge k w.heap.size with h | h
      · exact hb.block k h
      · have := S.big k (S.top k h); omega) hb.size S.inv
    big := S.big
    top := fun k hk => S.top k (by have := hb.size; omega)
    agree := fun k o v h => by
      have h1 := S.agree k o v h
      rw [cell_of_block (w := w) (hb.block k (cell_lt h1))]; exact h1
    box := fun i cs h => by cases h
    inj := fun i j cs ds h => by cases h
    zone := fun t k s e h => by
      obtain ⟨h1, h2, h3, ws, ty, h4, h5⟩ := S.zone t k s e h
      exact ⟨h1, h2, h3, ws, ty, by rw [hb.block k (heap_lt h4)]; exact h4, h5⟩
    zinj := S.zinj
    zbox := fun t k s e i cs h1 h2 => by cases h2 }
theorem Ext.below (S : WSim I B0 M x [] w) (hb : Go.RowKit.Below w.heap.size w w') : Ext M x w x w' :=
  ⟨hb.os, hb.tape, hb.output, hb.size, fun k hk => hb.block k (by
    rcases Nat.lt_or_ge k w.heap.size with h | h
    · exact h
    · exact absurd (S.top k h) hk), fun _ _ _ h => h, fun _ _ => rfl, fun _ _ => rfl⟩
end
theorem inv_stable {W : World} (hW : P.Inv W) : Stable P.Inv W.heap.size := fun w w' hk hs hw => by
  have hp : 3 < W.heap.size := by
    have h1 := hW.pow
    unfold Lib.TabIs World.var? at h1
    rw [P.gPow] at h1
    simp only [Option.bind_some] at h1
    rcases Nat.lt_or_ge 3 W.heap.size with h2 | h2
    · exact h2
    · rw [Array.getElem?_eq_none h2] at h1; cases h1
  have hr : 2 < W.heap.size := by
    obtain ⟨ev, h1, _⟩ := hW.rng
    exact World.block_lt_of_cell? W _ h1
  constructor
  · have h1 := hw.pow
    unfold Lib.TabIs World.var? at h1 ⊢
    rw [P.gPow] at h1 ⊢
    simp only [Option.bind_some] at h1 ⊢
    rw [hk _ hp]; exact h1
  · obtain ⟨ev, h1, h2⟩ := hw.rng
    exact ⟨ev, by rw [cell_of_block (w := w) (hk _ hr)]; exact h1, h2⟩
/-- what is given -/
def X0 : Given := fun f args bx o =>
  (f = 76 ∧ ∃ (s : ByteArray) (c : UInt8) (r : List UInt8), L s = c :: r ∧ (48 ≤ c.toNat ∧ c.toNat ≤ 57) ∧ s.size ≤ 1099511627776 ∧ Lib.parseIntB 64 (L s) ≠ Lib.NumEnd.syntax ∧ args = [vS s] ∧ bx = [] ∧ o = .ret (wholeV (L s)) []) ∨
  (f = 87 ∧ ∃ (s : ByteArray) (c : UInt8), args = [vS s, vC c] ∧ bx = [] ∧ o = .ret (vI (Lib.indexByte s.data.toList c)) [])
theorem x0_lib : LibX X0 := ⟨fun s c r h1 h2 h3 h4 => .inl ⟨rfl, s, c, r, h1, h2, h3, h4, rfl, rfl, rfl⟩, fun s c => .inr ⟨rfl, s, c, rfl, rfl, rfl⟩⟩
theorem rep_str {x : Aux} {s : ByteArray} {v : Value} (h : RepV x (vS s) v) : v = .string s := by
  have : RepD x.h v (.str s) := h
  cases this; rfl
theorem x0_ok {B0 : Nat} (hI : Stable P.Inv B0) : GivenOK Tryd.prog X0 P.Inv B0 := by
  rintro f args bx o (⟨rfl, s, c, r, h1, h2, h3, h4, rfl, rfl, rfl⟩ | ⟨rfl, s, c, rfl, rfl, rfl⟩)
  · refine ⟨⟨_, Tryd.func76, by kernel_rfl, rfl⟩, fun M x w vs hv S => ?_⟩
    obtain ⟨v, l, hl, hv, rfl⟩ := hv
    obtain rfl := rep_str hv
    obtain rfl : vs = #[.string s] := by cases vs; simp_all
    have key : ∃ r1 r2, P.lex_whole.f s = some (r1, r2) ∧ wholeV (L s) = .tuple [vI r1, vB r2] := by
      unfold P.lex_whole.f wholeV
      have h1' : s.data.toList = c :: r := h1
      rw [h1', h1]
      rw [h1] at h4
      simp only
      rw [if_pos ⟨by unfold P.isDigit; simp; omega, h3⟩]
      cases hp : Lib.parseIntB 64 (c :: r) with
      | ok v => exact ⟨_, _, rfl, rfl⟩
      | range => exact ⟨_, _, rfl, rfl⟩
      | _ => exact absurd hp h4
    obtain ⟨r1, r2, hf, hwv⟩ := key
    refine (P.lex_whole.calls s r1 r2 w hf S.inv).mono fun e w' ⟨he, hb⟩ => ?_
    refine ⟨x, Ext.below S hb, _, he, ?_, S.below hI hb⟩
    rw [hwv]
    exact ⟨#[.int .i64 r1, .bool r2], rfl, _, _, rfl, RepD.int _ _, _, _, rfl, RepD.bool _, rfl⟩
  · refine ⟨⟨_, Tryd.func87, by kernel_rfl, rfl⟩, fun M x w vs hv S => ?_⟩
    obtain ⟨v, l, hl, hv, v2, l2, rfl, hv2, rfl⟩ := hv
    obtain rfl := rep_str hv
    have e2 : v2 = .int .u8 (c.toNat : Int) := by
      have : RepD x.h v2 (.int .u8 (c.toNat : Int)) := hv2
      cases this; rfl
    subst e2
    obtain rfl : vs = #[.string s, .int .u8 (c.toNat : Int)] := by cases vs; simp_all
    refine (P.stringslite_IndexByte.calls s c.toNat (Lib.indexByte s.data.toList c) w (by unfold P.stringslite_IndexByte.f; simp)).mono fun e w' ⟨he, hb⟩ => ?_
    refine ⟨x, Ext.below S hb.below, _, he, ?_, S.below hI hb.below⟩
    exact RepD.int _ _
theorem wf_i64 {a : Int} (h : (Lit.int .i64 a).wf = true) : -9223372036854775808 ≤ a ∧ a ≤ 9223372036854775807 := by
  simp only [Lit.wf, Bool.and_eq_true, decide_eq_true_eq] at h; exact h
theorem wf_u8 {a : Int} (h : (Lit.int .u8 a).wf = true) : 0 ≤ a ∧ a ≤ 255 := by
  simp only [Lit.wf, Bool.and_eq_true, decide_eq_true_eq] at h; exact h
theorem wf_u16 {a : Int} (h : (Lit.int .u16 a).wf = true) : 0 ≤ a ∧ a ≤ 65535 := by
  simp only [Lit.wf, Bool.and_eq_true, decide_eq_true_eq] at h; exact h
/-- a law that comes to true, as a row asks it -/
theorem row_does {w : World} (hI : P.Inv w) {f : FuncId} {args : List V} {vs : Array Value} (hargs : RepVs (seen w) args vs.toList) (h : Does (OrX X0) f args [] (.ret (vB true) [])) :
    Calls Tryd.prog f vs w fun e w' => e = .returned (.bool true) ∧ Go.RowKit.Below w.heap.size w w' := by
  have hS := inv_stable hI
  have hX := orX_ok mixed hS (x0_ok hS)
  obtain ⟨n, hn⟩ := h Out (fun o => .leaf o) (.ret (vB true) []) (Den.leaf _)
  obtain ⟨o, _, hC, hl⟩ := den_call hX (below_all mixed tt_ok hS hX n) hn
  obtain rfl : o = .ret (vB true) [] := by cases hl; rfl
  refine (hC _ (seen w) w vs hargs (seen_wsim hI)).mono fun e w' ⟨x', hE, rv, he, hr, _⟩ => ?_
  refine ⟨?_, ⟨hE.os, hE.tape, hE.output, hE.size, fun k hk => hE.blk k (by omega)⟩⟩
  rw [he]
  have : RepD x'.h rv (.bool true) := hr
  cases this
  rfl
end Go.Proofs.YtacfbgfphkfobaaDoor.Id
/-! ## Open -/
namespace Go.Proofs.YtacfbgfphkfobaaDoor.Opens
open Go.ChangeShapes Go.WideShapes Go.ChangeAt Go.RowKit Go.Proofs.YtacfbgfphkfobaaDoorW.PrintWords Go.Proofs.YtacfbgfphkfobaaDoorW.PrintLast Go.Proofs.YtacfbgfphkfobaaDoorW.PrintMore
open Go.ChangeMaps (open_string shut_string)
set_option linter.unusedVariables false
set_option linter.unusedSimpArgs false

theorem bulk_str {H : Type} {s : ByteArray} {l : List (DataW H)} (h : (DataW.lit (.string s.data.toList)) ∈ l) (hk : Rows.uptoSmall H l = true) : s.size ≤ 1048576 := by
  have h1 := bulks.part_le h
  have h2 := bulks.bound hk
  rw [bulks.string_eq] at h1
  have e : s.data.toList.length = s.size := by rw [Array.length_toList]; rfl
  omega
theorem bulk_strs {H : Type} (l : List ByteArray) : Rows.uptoBulkAll (strs (H := H) l) = (l.map (fun s => s.size + 1)).sum := by
  induction l with
  | nil => rfl
  | cons x r ih =>
    have e : x.data.toList.length = x.size := by rw [Array.length_toList]; rfl
    have e2 : strs (H := H) (x :: r) = .lit (.string x.data.toList) :: strs r := rfl
    rw [e2, Rows.uptoBulkAll, ih, bulks.string_eq, e]; simp
theorem open_strs {H : Type} {enc : TypeId × Value → H} {P : Program} {W : World} {t e : TypeId} {a : Option Addr} {len cap : Nat} {d : DataW H} {ps : List MemPlace} (ht : P.underlying t = some (.slice e)) (he : P.underlying e = some .string) (hc : P.cellsOf e = 1)
    (h : DataW.Trod enc P W 0 (fun _ => true) true t (.slice a len cap) d ps) :
    ∃ l : List ByteArray, len = l.length ∧ len ≤ cap ∧ Kd.C Kd.string W a l.length l ∧ (l.map (fun s => s.size + 1)).sum ≤ Rows.uptoBulk d := by
  obtain ⟨fuel, hf⟩ := h
  rcases open_strings ht he hc hf with ⟨hcs, hx⟩ | ⟨x, l, c, ss, hcs, _, hl, hm, hz, hx, hcell, hw⟩
  · simp [Value.cells] at hcs
    obtain ⟨rfl, rfl, rfl⟩ := hcs
    exact ⟨[], rfl, Nat.le_refl _, ⟨rfl, by simp, fun h => absurd h (by simp)⟩, by simp⟩
  · simp [Value.cells] at hcs
    obtain ⟨rfl, rfl, rfl⟩ := hcs
    simp only [Prod.mk.injEq] at hx
    obtain ⟨rfl, _⟩ := hx
    simp at hz
    have hlen : (ss.take len).length = len := by rw [List.length_take]; omega
    refine ⟨ss.take len, hlen.symm, hl, ⟨rfl, by rw [hlen]; unfold maxLen at hm; omega, fun _ => ⟨x, rfl, fun j p hj => ?_⟩⟩, ?_⟩
    · have hj2 : j < len := by have := (List.getElem?_eq_some_iff.1 hj).1; omega
      refine ⟨[.string p], rfl, rfl, fun i u hi => ?_⟩
      have hi0 : i = 0 := by have := (List.getElem?_eq_some_iff.1 hi).1; simp at this; exact this
      subst hi0
      simp at hi; subst hi
      have := hcell j (by omega)
      have e1 : ss.getD j ByteArray.empty = p := by
        rw [List.getElem?_take_of_lt hj2] at hj
        rw [List.getD_eq_getElem?_getD, hj]; rfl
      rw [e1] at this
      have e2 : j * (Kd.string).sz + 0 = j := by show j * 1 + 0 = j; omega
      rw [e2]; exact this
    · have h1 := bulks.slice_elems (H := H) (strs (ss.take len)) (strs (ss.drop len))
      rw [bulk_strs] at h1
      omega
theorem bulk_arg {H : Type} {d : DataW H} {l : List (DataW H)} (h : d ∈ l) (hk : Rows.uptoSmall H l = true) : Rows.uptoBulk d ≤ 1048576 := Nat.le_trans (bulks.part_le h) (bulks.bound hk)
theorem strs_len (l : List ByteArray) : l.length ≤ (l.map (fun s => s.size + 1)).sum := by
  induction l with
  | nil => simp
  | cons x r ih => simp; omega
theorem strs_mem {l : List ByteArray} {s : ByteArray} (h : s ∈ l) : s.size + 1 ≤ (l.map (fun s => s.size + 1)).sum := by
  induction l with
  | nil => cases h
  | cons x r ih =>
    cases List.mem_cons.1 h with
    | inl e => subst e; simp
    | inr e => have := ih e; simp; omega
end Go.Proofs.YtacfbgfphkfobaaDoor.Opens
/-! ## LawParseNests -/
namespace Go.Proofs.YtacfbgfphkfobaaDoor.parseNests
open Go.ChangeShapes Go.WideShapes Go.ChangeAt Go.RowKit
open Go.ChangeMaps (open_string shut_string)
set_option linter.unusedVariables false
set_option linter.unusedSimpArgs false
theorem own : ownKnob Tryd.prog.godebug = none := by kernel_rfl
theorem laidOut : laidOutB Tryd.prog = true := by kernel_rfl
set_option maxRecDepth 100000 in
theorem contract (H : Type) (enc : TypeId × Value → H) (W : World) (args : Array Value) (ds gs : List (DataW H)) (before : List MemPlace)
    (base : Nat) (hval0 : ∀ (j : Nat) t v, Tryd.f6.params[j]? = some t → args[j]? = some v → Value.okWide Tryd.prog W .any base t v)
    (hW : DataW.Whole enc Tryd.prog Tryd.f6.params.toList Rows.parseNestsSpec.vars false W args.toList ds gs before) (hk : Rows.uptoSmall H (ds ++ gs) = true) (hL0 : laidMetH Tryd.prog Rows.parseNestsUptoRow.laid W) :
    Calls Tryd.prog 6 args W fun e W' => ∃ v, e = .returned v ∧ Rows.parseNestsSpec.post enc Tryd.prog Tryd.f6 false true false false W args v W' := by
  have hval := hval0
  have hW' := hW
  obtain ⟨p, q, hA0, hV, rfl, hfz, hnd⟩ := hW
  have hA : DataW.TrodAll enc Tryd.prog W 0 (fun _ => true) true Tryd.f6.params.toList args.toList ds p := hA0
  rw [Tryd.params6] at hA hval
  obtain ⟨v0, vs0, d0, ds0, p0, q0, hargs, rfl, rfl, h0, r0⟩ := trodAll_cons hA
  obtain ⟨v1, vs1, d1, ds1, p1, q1, rfl, rfl, rfl, h1, r1⟩ := trodAll_cons r0
  obtain ⟨rfl, rfl, rfl⟩ := trodAll_nil r1
  obtain rfl : args = #[v0, v1] := by cases args; simp_all
  obtain ⟨rfl, rfl⟩ := trodVars_none hV
  obtain ⟨A0, len0, cap0, rfl⟩ := okWide_slice Tryd.underlying53 (hval 0 53 v0 rfl rfl)
  have k0 := h0
  have lt0 : ∀ x ∈ p0, x.block < W.heap.size := by obtain ⟨m, hm⟩ := k0; exact DataW.trod_lt m _ _ _ hm
  obtain ⟨m0, hm0⟩ := h0
  obtain ⟨a0, u0, hu0, ra0, sm0⟩ := Id.trod_bytes Tryd.underlying53 Tryd.underlying5 (by kernel_rfl) hm0 (Opens.bulk_arg (d := d0) (by simp) hk)
  simp [Value.cells] at hu0
  subst hu0
  obtain ⟨a1, rfl, rfl, rfl, w1⟩ := open_int Tryd.underlying5 (hval 1 5 v1 rfl rfl) h1
  have hL : laidMet Tryd.prog [("math/bits.deBruijn32tab", Rows.laid_math_bits_deBruijn32tab), ("math/bits.deBruijn64tab", Rows.laid_math_bits_deBruijn64tab), ("internal/strconv.uint64pow10", Rows.laid_internal_strconv_uint64pow10), ("strconv.ErrRange", Rows.laid_strconv_ErrRange), ("strconv.ErrSyntax", Rows.laid_strconv_ErrSyntax)] W := by rw [MakeChecks.laidMetH_plain _ _ _ (by kernel_rfl)] at hL0; exact hL0
  rw [show Rows.laid_internal_strconv_uint64pow10 = (Lib.tabData .u64 Lib.pow10Tab : DataW Unit) by kernel_rfl] at hL
  have hI : P.Inv W := P.inv_of_laid hL
  clear hA0
  refine (Id.row_does (args := [.d (.sl 1 (a0.map Id.byteD)), .d (.int .u8 a1)]) (vs := #[.slice A0 len0 cap0, .int .u8 a1]) hI ⟨_, _, rfl, ra0, _, _, rfl, Id.RepD.int _ _, rfl⟩ (Id.nests_does Id.x0_lib a0 a1 sm0 (Id.wf_u8 w1))).mono fun e W' ⟨he, bel0⟩ => ?_
  have bel : Below W.heap.size W W' := bel0
  subst he
  exact ⟨_, rfl, _, _, _, [], _, [], hW', trodAll_mk1 (shut_bool Tryd.underlying4 _), (trodAll_cons_mk (Below.trod laidOut (by kernel_rfl) (of_decide_eq_true (by kernel_rfl)) k0 bel lt0) (trodAll_cons_mk (shut_int Tryd.underlying5 w1) trodAll_mk0)), rfl, bel.frame _, fun h => by cases h⟩
/-- So many blocks has the settled world. -/
noncomputable def low : Nat := (World.holding Tryd.prog default ⟨#[], #[], []⟩).heap.size
/-- A world for the witness: the settled one, the listed variables holding what their initialisers lay. -/
noncomputable def laidWorld (os : Os) : World :=
  { World.holding Tryd.prog os ⟨#[.cells #[.string { data := #[118, 97, 108, 117, 101, 32, 111, 117, 116, 32, 111, 102, 32, 114, 97, 110, 103, 101] }] 166, .cells #[.string { data := #[105, 110, 118, 97, 108, 105, 100, 32, 115, 121, 110, 116, 97, 120] }] 166], #[], []⟩ with heap := ((((((World.holding Tryd.prog os ⟨#[.cells #[.string { data := #[118, 97, 108, 117, 101, 32, 111, 117, 116, 32, 111, 102, 32, 114, 97, 110, 103, 101] }] 166, .cells #[.string { data := #[105, 110, 118, 97, 108, 105, 100, 32, 115, 121, 110, 116, 97, 120] }] 166], #[], []⟩).heap.modify 4 fun
      | .cells _ t frozen => .cells #[.int .u8 0, .int .u8 1, .int .u8 28, .int .u8 2, .int .u8 29, .int .u8 14, .int .u8 24, .int .u8 3, .int .u8 30, .int .u8 22, .int .u8 20, .int .u8 15, .int .u8 25, .int .u8 17, .int .u8 4, .int .u8 8, .int .u8 31, .int .u8 27, .int .u8 13, .int .u8 23, .int .u8 21, .int .u8 19, .int .u8 16, .int .u8 7, .int .u8 26, .int .u8 12, .int .u8 18, .int .u8 6, .int .u8 11, .int .u8 5, .int .u8 10, .int .u8 9] t frozen
      | o => o).modify 5 fun
      | .cells _ t frozen => .cells #[.int .u8 0, .int .u8 1, .int .u8 56, .int .u8 2, .int .u8 57, .int .u8 49, .int .u8 28, .int .u8 3, .int .u8 61, .int .u8 58, .int .u8 42, .int .u8 50, .int .u8 38, .int .u8 29, .int .u8 17, .int .u8 4, .int .u8 62, .int .u8 47, .int .u8 59, .int .u8 36, .int .u8 45, .int .u8 43, .int .u8 51, .int .u8 22, .int .u8 53, .int .u8 39, .int .u8 33, .int .u8 30, .int .u8 24, .int .u8 18, .int .u8 12, .int .u8 5, .int .u8 63, .int .u8 55, .int .u8 48, .int .u8 27, .int .u8 60, .int .u8 41, .int .u8 37, .int .u8 16, .int .u8 46, .int .u8 35, .int .u8 44, .int .u8 21, .int .u8 52, .int .u8 32, .int .u8 23, .int .u8 11, .int .u8 54, .int .u8 26, .int .u8 40, .int .u8 15, .int .u8 34, .int .u8 20, .int .u8 31, .int .u8 10, .int .u8 25, .int .u8 14, .int .u8 19, .int .u8 9, .int .u8 13, .int .u8 8, .int .u8 7, .int .u8 6] t frozen
      | o => o).modify 3 fun
      | .cells _ t frozen => .cells #[.int .u64 1, .int .u64 10, .int .u64 100, .int .u64 1000, .int .u64 10000, .int .u64 100000, .int .u64 1000000, .int .u64 10000000, .int .u64 100000000, .int .u64 1000000000, .int .u64 10000000000, .int .u64 100000000000, .int .u64 1000000000000, .int .u64 10000000000000, .int .u64 100000000000000, .int .u64 1000000000000000, .int .u64 10000000000000000, .int .u64 100000000000000000, .int .u64 1000000000000000000, .int .u64 10000000000000000000] t frozen
      | o => o).modify 2 fun
      | .cells _ t frozen => .cells #[.iface 164 (.pointer (some ⟨low + 0, 0, none⟩))] t frozen
      | o => o).modify 1 fun
      | .cells _ t frozen => .cells #[.iface 164 (.pointer (some ⟨low + 1, 0, none⟩))] t frozen
      | o => o) }
theorem laid_met (os : Os) : laidMet Tryd.prog Rows.parseNestsUptoRow.laid ((laidWorld os).forCall (fun _ _ => 0) ⟨#[], #[.slice none 0 0, .int .u8 0], []⟩).memory :=
  laidMet_of_run' 8 (by kernel_rfl) (by kernel_rfl)
theorem reads (os : Os) {H : Type} (enc : TypeId × Value → H) : ∃ places, DataW.whole enc Tryd.prog ((laidWorld os).forCall (fun _ _ => 0) ⟨#[], #[.slice none 0 0, .int .u8 0], []⟩).memory Tryd.f6.params.toList Rows.parseNestsSpec.vars false (#[.slice none 0 0, .int .u8 0] : Array Value).toList 8 = some ([.nil, .lit (.int .u8 0)], [], places) :=
  ⟨[], by kernel_rfl⟩
set_option maxRecDepth 100000 in
theorem lifted (os : Os) (started : os.Started) (H : Type) (enc : TypeId × Value → H) (F : Stop.Interp) :
    ReturnsInHanded {} Tryd.checked os 6 .any ((Rows.OpenSpec.upto Rows.parseNestsSpec).preRow enc Tryd.prog Tryd.f6 Rows.parseNestsUptoRow.domain false Rows.parseNestsUptoRow.laid) (((Rows.OpenSpec.upto Rows.parseNestsSpec).at F).post enc Tryd.prog Tryd.f6 false true false false) := by
  obtain ⟨places, hx⟩ := reads os enc
  refine returnsInHanded_of_row (C := Tryd.checked) (s := Rows.OpenSpec.upto Rows.parseNestsSpec) own started (by kernel_rfl) Tryd.func6
    (witness_row_at (enc := enc) (C := Tryd.checked) false (laidWorld os) #[.slice none 0 0, .int .u8 0] rfl (by kernel_rfl) (by kernel_rfl) (by kernel_rfl)
      (OpenSpec.preRow_of_cond 8 hx (by kernel_rfl) (fun k hk => by cases hk; kernel_rfl) (by kernel_rfl) (laid_met os))) ?_
  intro W base args ds gs before hval hW _ hcond _ hL0 _ _
  exact contract H enc W args ds gs before base hval hW (hcond _ rfl) hL0
theorem saidUpto : Rows.ParseNestsUptoSaid :=
  OpenClaim.holds_of_cond 6 Tryd.f6 rfl rfl rfl rfl rfl rfl rfl ⟨rfl, rfl, rfl, rfl, rfl⟩ rfl rfl rfl rfl rfl (by kernel_rfl) Tryd.func6 (by kernel_rfl)
    (of_decide_eq_true (by kernel_rfl)) (by unfold Func.isWrapper; first | (rw [if_pos (by decide +kernel)]; kernel_rfl) | (rw [if_neg (by decide +kernel)]; exact ⟨rfl, rfl⟩))
    (fun os started H enc _ F => by rw [OpenClaim.pre_eq_preRow]; exact lifted os started H enc F)
theorem plain (f : FuncId) (fn : Func) (hf : Tryd.pinned.checked.prog.funcNamed "treadle/treadlelaw14.ParseNests" = some f) (hfn : Tryd.pinned.checked.prog.funcs[f]? = some fn) :
    true = Tryd.pinned.checked.prog.looks [] ∧ ∀ (j : Nat) t, fn.params[j]? = some t → Tryd.pinned.checked.prog.wantsStandIn t = false := by
  obtain rfl : f = 6 := Option.some.inj ((show Tryd.prog.funcNamed "treadle/treadlelaw14.ParseNests" = some 6 by kernel_rfl).symm.trans hf) |>.symm
  obtain rfl : fn = Tryd.f6 := (Option.some.inj (Tryd.func6.symm.trans hfn)).symm
  refine ⟨by kernel_rfl, fun j t ht => ?_⟩
  rw [Tryd.params6] at ht
  have hm := Array.mem_of_getElem? ht
  simp only [List.mem_toArray, List.mem_cons, List.not_mem_nil, or_false] at hm
  rcases hm with rfl | rfl
  · exact (show Tryd.prog.wantsStandIn 53 = false by kernel_rfl)
  · exact (show Tryd.prog.wantsStandIn 5 = false by kernel_rfl)
theorem cardUpto : Rows.ParseNestsUptoCardSaid :=
  Claim7.holds_tied_plain_at .later [] _ _ _ _ saidUpto (fun _ h => by cases h) (by kernel_rfl) (fun _ h => by cases h) parseNestsUpto_row_tie rfl ⟨rfl, rfl⟩ (by kernel_rfl) rfl plain (by kernel_rfl)
#print axioms cardUpto
end Go.Proofs.YtacfbgfphkfobaaDoor.parseNests
namespace Go.Proofs.YtacfbgfphkfobaaDoor
/-- The statement, under a short name, for the claim. -/
theorem parseNests_holds : Rows.ParseNestsUptoCardSaid := parseNests.cardUpto
end Go.Proofs.YtacfbgfphkfobaaDoor
