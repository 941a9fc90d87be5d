/- Texts of this repo, bundled: PrB, PaRightB, PrC, PrD, PrE, PrF, PrG, InvI, DenQte, PrSz, ShelfRep, LaidI, PaRightG, PrQ. -/
import Derived.Test.YtaddhpeainliiaaGreatDoorBunPrintModulesf
import Derived.Test.YtaddhpeainliiaaGreatDoorProg
import Derived.Below
import Derived.RowKit
import Derived.Lib.LaidTab
import Derived.Lib.ItoaMem
import Derived.Shelf.Strings.Repeat
import Derived.Lib.LaidU8
import Derived.Stop.LaidErr
/-! ## PrB -/
namespace Go.Proofs.YtaddhpeainliiaaGreatDoor.Id
open Go
set_option linter.unusedVariables false
set_option linter.unusedSimpArgs false
/-- arguments, with commas between -/
def wSeq : List (PSt → PSt) → Bool → PSt → PSt
  | [], _, p => p
  | f :: r, first, p => wSeq r false (f (if first = true then p else pgap [32] (ptok [44] p)))
def rSeq : List (Bool → List UInt8) → Bool → Bool → List UInt8
  | [], _, _ => []
  | s :: r, first, t => (if first = true then [] else 44 :: gp t) ++ (s t ++ rSeq r false t)
def uSeq : List Int → Int
  | [] => 0
  | n :: r => max n (uSeq r)
structure Pc where
  f : PSt → PSt
  s : Bool → List UInt8
  l : UInt8
  n : Int
def Pc.ok (x : Pc) : Prop := Is x.f x.s x.l x.n
theorem comma_eq (q : PSt) : pgap [32] (ptok [44] q) = { q with out := q.out ++ (44 :: gp q.tight), last := 0 } := by
  have e1 : ptok [44] q = pput [44] q := by unfold ptok; rw [if_neg (by decide), if_neg (by decide)]
  have e2 : sepL q.last [44] = [] := sepN (by decide)
  have e3 : lt [44] = 0 := by decide
  rw [e1]
  unfold pput pgap gp
  rw [e2, e3]
  by_cases h : q.tight = true
  · simp [h]
  · simp [h]
theorem wSeq_ok : ∀ (l : List Pc), (∀ x ∈ l, x.ok) → ∀ (first : Bool) (q : PSt), q.lv ≤ q.most → (first = true → q.last = 0) →
    ∃ l', wSeq (l.map Pc.f) first q = { q with out := q.out ++ rSeq (l.map Pc.s) first q.tight, last := l', most := max q.most (q.lv + uSeq (l.map Pc.n)) }
  | [], _, first, q, hq, _ => ⟨q.last, by
    have : max q.most q.lv = q.most := by omega
    simp [wSeq, rSeq, uSeq, this]⟩
  | x :: r, hx, first, q, hq, hl => by
    have hx0 : Is x.f x.s x.l x.n := hx x (by simp)
    have key : ∀ q0 : PSt, q0.lv ≤ q0.most → q0.last = 0 → ∃ l', wSeq (r.map Pc.f) false (x.f q0) = { q0 with out := q0.out ++ (x.s q0.tight ++ rSeq (r.map Pc.s) false q0.tight), last := l', most := max q0.most (q0.lv + uSeq ((x :: r).map Pc.n)) } := fun q0 h0 h1 => by
      rw [hx0.2.2 q0 h0]
      obtain ⟨l', h2⟩ := wSeq_ok r (fun y hy => hx y (by simp [hy])) false (eff (x.s q0.tight) x.l x.n q0) (eff_ok h0) (fun h => by cases h)
      refine ⟨l', ?_⟩
      rw [h2]
      unfold eff
      rw [h1, sep0]
      simp only [PSt.mk.injEq, List.append_assoc, List.nil_append, true_and, List.map_cons, uSeq]
      omega
    cases first with
    | true =>
      obtain ⟨l', h⟩ := key q hq (hl rfl)
      refine ⟨l', ?_⟩
      show wSeq (r.map Pc.f) false (x.f q) = _
      rw [h]; simp [rSeq]
    | false =>
      obtain ⟨l', h⟩ := key { q with out := q.out ++ (44 :: gp q.tight), last := 0 } hq rfl
      refine ⟨l', ?_⟩
      show wSeq (r.map Pc.f) false (x.f (pgap [32] (ptok [44] q))) = _
      rw [comma_eq, h]; simp [rSeq]
/-- a call: a name, and arguments in brackets -/
theorem call_is {f : PSt → PSt} {s : List UInt8} {l : UInt8} (h : Is f (fun _ => s) l 0) (a : List Pc) (ha : ∀ x ∈ a, x.ok) : Is (fun p => ptok [41] (wSeq (a.map Pc.f) true (ptok [40] (f p)))) (fun t => s ++ (40 :: (rSeq (a.map Pc.s) true t ++ [41]))) 0 (max 0 (uSeq (a.map Pc.n)) + 1) := by
  refine ⟨by omega, fun t => by have := h.2.1 true; simp [this], fun p hp => ?_⟩
  show ptok [41] (wSeq (a.map Pc.f) true (ptok [40] (f p))) = eff (s ++ (40 :: (rSeq (a.map Pc.s) true p.tight ++ [41]))) 0 (max 0 (uSeq (a.map Pc.n)) + 1) p
  have hne := h.2.1 true
  rw [h.2.2 p hp]
  have e1 : ∀ q, ptok [40] q = popen (pput [40] q) := fun q => by unfold ptok; rw [if_pos (.inr rfl)]
  have e3 : ∀ q, ptok [41] q = pshut (pput [41] q) := fun q => by unfold ptok; rw [if_neg (by decide), if_pos (.inr rfl)]
  have e2 : ∀ z, sepL z [40] = [] := fun z => sepN (by decide)
  have e4 : ∀ z, sepL z [41] = [] := fun z => sepN (by decide)
  have e5 : lt [40] = 0 := by decide
  have e6 : lt [41] = 0 := by decide
  rw [e1, e3]
  obtain ⟨l', h2⟩ := wSeq_ok a ha true (popen (pput [40] (eff s l 0 p))) (by show p.lv + 1 ≤ max _ (p.lv + 1); omega) (fun _ => e5)
  rw [h2]
  unfold pshut pput popen eff
  rw [sepL_app hne]
  simp only [e2, e4, e5, e6, List.nil_append, PSt.mk.injEq, List.append_assoc, true_and, and_true]
  refine ⟨by simp, by omega, by omega⟩
/-! ### expressions -/
section
variable (lit : TVal → List UInt8)
/-- how an operand binds: the writer's -/
def bnd (k op : Int) : Int := if k = 5 then sgnN op else 7
/-- does an operand stand in brackets? the document's -/
def inBr (k op k1 o1 : Int) (second : Bool) : Bool := decide (k1 = 5) && (decide (k = 4) || (if second = true then decide (sgnN o1 ≤ sgnN op) else decide (sgnN o1 < sgnN op) || (decide (sgnN op = 3) && decide (sgnN o1 = 3))))
def wNode (k : Int) (of nm : List UInt8) (v : TVal) (op : Int) (kb : List (Int × Int)) (fs : List (PSt → PSt)) (p : PSt) : PSt :=
  if k = 1 then ptok (lit v) p
  else if k = 2 then wName of nm p
  else if k = 3 then ptok [41] (wSeq fs true (ptok [40] (wName of nm p)))
  else if k = 4 then match kb, fs with
    | [x], [f] => pshut (wIn (decide (x.1 = 5)) f (popen (ptok (sgnT op) p)))
    | _, _ => p
  else if k = 5 then match kb, fs with
    | [x, y], [f, g] => wIn (decide (bnd y.1 y.2 ≤ sgnN op)) g (pgap [32] (ptok (sgnT op) (pgap [32] (wIn (decide (bnd x.1 x.2 < sgnN op) || (decide (sgnN op = 3) && decide (bnd x.1 x.2 = sgnN op))) f p))))
    | _, _ => p
  else p
def rNode (k : Int) (of nm : List UInt8) (v : TVal) (op : Int) (kb : List (Int × Int)) (ss : List (Bool → List UInt8)) (t : Bool) : List UInt8 :=
  if k = 1 then lit v
  else if k = 2 then rName of nm
  else if k = 3 then rName of nm ++ (40 :: (rSeq ss true t ++ [41]))
  else if k = 4 then match kb, ss with
    | [x], [s] => sgnT op ++ rIn (inBr k op x.1 x.2 false) (s t)
    | _, _ => []
  else match kb, ss with
    | [x, y], [s, u] => rIn (inBr k op x.1 x.2 false) (s t) ++ (gp t ++ (sgnT op ++ (gp t ++ rIn (inBr k op y.1 y.2 true) (u t))))
    | _, _ => []
mutual
def wE : TExpr → PSt → PSt
  | .mk k a of nm v op kids => wNode lit k (L of) (L nm) v op (kids.map fun x => (x.k, x.op)) (wEs kids)
def wEs : List TExpr → List (PSt → PSt)
  | [] => []
  | x :: r => wE x :: wEs r
end
mutual
def rE : TExpr → Bool → List UInt8
  | .mk k a of nm v op kids => rNode lit k (L of) (L nm) v op (kids.map fun x => (x.k, x.op)) (rEs kids)
def rEs : List TExpr → List (Bool → List UInt8)
  | [] => []
  | x :: r => rE x :: rEs r
end
/-- a unary sign's piece -/
theorem una_is {op : Int} {f : PSt → PSt} {s : Bool → List UInt8} {l : UInt8} {n : Int} (h : Is f s l n) : Is (fun p => pshut (f (popen (ptok (sgnT op) p)))) (fun t => sgnT op ++ s t) l (n + 1) := by
  refine ⟨by have := h.1; omega, fun t => by have := sgnT_ne op; simp [this], fun p hp => ?_⟩
  show pshut (f (popen (ptok (sgnT op) p))) = eff (sgnT op ++ s p.tight) l (n + 1) p
  obtain ⟨b1, b2, b3, b4⟩ := sgnT_br op
  rw [ptok_eff hp b1 b2 b3 b4, h.2.2 _ (by show p.lv + 1 ≤ max _ (p.lv + 1); omega)]
  unfold pshut popen eff
  rw [sepL_app (sgnT_ne op), lt_sgn, sep0]
  have h0 := h.1
  simp only [PSt.mk.injEq, List.append_assoc, List.nil_append, true_and, and_true]
  refine ⟨by omega, by omega⟩
/-- a binary operator's piece -/
theorem bin_is {op : Int} {f g : PSt → PSt} {s u : Bool → List UInt8} {l m : UInt8} {n i : Int} (h : Is f s l n) (k : Is g u m i) : Is (fun p => g (pgap [32] (ptok (sgnT op) (pgap [32] (f p))))) (fun t => s t ++ (gp t ++ (sgnT op ++ (gp t ++ u t)))) m (max n i) := by
  have h1 := h.gap (tok_is (sgnT_ne op) (sgnT_br op)) (sepN (sgnT_hd op))
  have h2 := h1.gap k (by rw [lt_sgn]; exact sep0 _)
  have h0 := h.1
  exact h2.conv (by funext t; simp only [List.append_assoc]) rfl (by omega)
end
end Go.Proofs.YtaddhpeainliiaaGreatDoor.Id
/-! ## PaRightB -/
namespace Go.Proofs.YtaddhpeainliiaaGreatDoor.Id
open Go
set_option linter.unusedVariables false
set_option linter.unusedSimpArgs false
variable {X : Given}
theorem tw_len_all (p : UInt8 → Bool) : ∀ l : List UInt8, (l.takeWhile p).length = l.length ↔ l.all p = true
  | [] => by simp
  | c :: r => by
    rw [List.takeWhile_cons, List.all_cons]
    have ih := tw_len_all p r
    by_cases h : p c = true
    · rw [if_pos h, List.length_cons, List.length_cons, h, Bool.true_and, ← ih]; omega
    · rw [if_neg h]; simp [h]
def nmOk : List UInt8 → Bool
  | [] => false
  | c :: r => decide ((c :: r).length ≤ 32) && (isL c && (c :: r).all isW)
theorem just_word (l : List UInt8) : just l 1 = (nmOk l && !decide (l ∈ keyTexts)) := by
  cases l with
  | nil => rfl
  | cons c r =>
    have hl := tw_len_all isW (c :: r)
    have hle := tw_le isW (c :: r)
    unfold just nmOk
    change (decide (c :: r ≠ []) && decide ((tokC c r).2.2 = 0) && decide ((tokC c r).1 = 1) && decide ((tokC c r).2.1 = (c :: r).length)) = ((decide ((c :: r).length ≤ 32) && (isL c && (c :: r).all isW)) && !decide (c :: r ∈ keyTexts))
    unfold tokC
    generalize ((c :: r).takeWhile isW).length = n at *
    by_cases h1 : isL c = true
    · rw [if_pos h1, h1]
      by_cases hn : n = (c :: r).length
      · have ha := hl.1 hn
        rw [ha]
        subst hn
        rw [List.take_length]
        by_cases h2 : 32 < (c :: r).length
        · rw [if_pos h2]
          rw [decide_eq_false (show ¬ (c :: r).length ≤ 32 by omega)]
          simp
        · rw [if_neg h2]
          have : (c :: r).length ≤ 32 := by omega
          by_cases h3 : c :: r ∈ keyTexts
          · rw [if_pos h3]; simp [h3]
          · rw [if_neg h3]; simp at this; simp [h3, this]
      · have ha : (c :: r).all isW = false := by
          cases h : (c :: r).all isW with
          | false => rfl
          | true => exact absurd (hl.2 h) hn
        rw [ha]
        split
        · simp
        · split
          · simp
          · simp at hn; simp [hn]
    · rw [if_neg h1]
      have : isL c = false := by simpa using h1
      rw [this]
      repeat' split
      all_goals simp
theorem name_loop (s : ByteArray) (hs : s.size ≤ 1048576) (K : Ex → St → T Out) (Q : Out → Prop) : ∀ (r : List UInt8) (i : Nat), (L s).drop i = r →
    (r.all isW = true → WP X (K (.exit 0) ⟨[], []⟩) Q) → (r.all isW = false → WP X (K .ret ⟨[(2, .lit false)], []⟩) Q) → ∀ σ : St, getT σ.t 0 = vS s → getT σ.t 3 = vI i →
    WP X (.loop (lp Tryz.f109 0) σ K) Q
  | r, i, h, hE, hR, σ, g0, g3 => by
    refine WP.round ⟨[(0, vS s), (3, vI i)], []⟩ ⟨⟨.inl g0.symm, .inl g3.symm, trivial⟩, trivial⟩ ?_
    cases r with
    | nil =>
      have h1 := drop_none h; rw [L_length] at h1
      refine WP.iteF (by simp; omega) ?_
      exact WP.leaf ⟨⟨[], []⟩, ⟨trivial, trivial⟩, hE rfl⟩
    | cons c r =>
      obtain ⟨hb, hi⟩ := bt_drop h
      have hgo : isW c = true → ∀ σ : St, getT σ.t 0 = vS s → getT σ.t 3 = vI (IntKind.i64.wrap ((i : Int) + 1)) → WP X (.loop (lp Tryz.f109 0) σ K) Q := fun hw σ e0 e3 => by
        refine name_loop s hs K Q r (i + 1) (drop_some h).2.2 ?_ ?_ σ e0 ?_
        · intro ha; exact hE (by rw [List.all_cons, hw, ha]; rfl)
        · intro ha; exact hR (by rw [List.all_cons, hw, ha]; rfl)
        · rw [e3, wrapI (by omega) (by omega)]; rfl
      refine WP.iteT (by simp; omega) ?_
      refine WP.asrt (by omega) ?_
      refine WP.use1 (by rw [hb]; exact rletter c) ?_
      by_cases h1 : isL c = true
      · refine WP.iteF (by simp [h1]) ?_
        exact WP.leaf (hgo (by unfold isW; rw [h1]; rfl) _ rfl rfl)
      refine WP.iteT (by simp [h1]) ?_
      refine WP.asrt (by omega) ?_
      refine WP.use1 (by rw [hb]; exact rdigit c) ?_
      by_cases h2 : isD c = true
      · refine WP.iteF (by simp [h2]) ?_
        exact WP.leaf (hgo (by unfold isW; rw [h2]; simp) _ rfl rfl)
      · refine WP.iteT (by simp [h2]) ?_
        refine WP.leaf ⟨⟨[(2, .lit false)], []⟩, ⟨⟨.inl rfl, trivial⟩, trivial⟩, hR ?_⟩
        rw [List.all_cons]; unfold isW; simp [h1, h2]
theorem rname (s : ByteArray) (hs : s.size ≤ 1048576) : Does X 109 [vS s] [] (.ret (vB (nmOk (L s))) []) := by
  refine DoesQ.eq (DoesQ.of Tryz.func109 (by kernel_rfl) ?_)
  have hz := L_length s
  cases hl : L s with
  | nil =>
    rw [hl] at hz
    have hz0 : s.size = 0 := hz.symm
    refine WP.iteT (decide_eq_true (by omega)) ?_
    exact WP.leaf rfl
  | cons c r =>
    obtain ⟨hb, hi⟩ := bt_drop (s := s) (i := 0) (c := c) (r := r) (by rw [hl]; rfl)
    rw [hl] at hz
    have hp : 0 < (c :: r).length := by simp
    refine WP.iteF (decide_eq_false (by omega)) ?_
    rw [show nmOk (c :: r) = (decide ((c :: r).length ≤ 32) && (isL c && (c :: r).all isW)) from rfl]
    by_cases h32 : (c :: r).length ≤ 32
    · refine WP.iteF (decide_eq_false (by omega)) ?_
      refine WP.asrt (by omega) ?_
      refine WP.use1 (by rw [show bt s 0 = _ from hb]; exact rletter c) ?_
      by_cases h1 : isL c = true
      · refine WP.iteF (by simp [h1]) ?_
        refine name_loop s hs _ _ (c :: r) 0 (by rw [hl]; rfl) ?_ ?_ _ rfl rfl
        · intro ha; exact WP.leaf (by rw [decide_eq_true h32, h1, ha]; rfl)
        · intro ha; exact WP.leaf (by rw [decide_eq_true h32, h1, ha]; rfl)
      · refine WP.iteT (by simp [h1]) ?_
        exact WP.leaf (by simp [h1])
    · refine WP.iteT (decide_eq_true (by omega)) ?_
      exact WP.leaf (by rw [decide_eq_false h32]; rfl)
theorem rword (s : ByteArray) (hs : s.size ≤ 1048576) : Does X 66 [vS s] [] (.ret (vB (isWord s)) []) := by
  refine DoesQ.eq (DoesQ.of Tryz.func66 (by kernel_rfl) ?_)
  refine WP.use1 (rname s hs) ?_
  unfold isWord
  rw [just_word]
  refine WP.ite (fun h => ?_) (fun h => ?_)
  · refine WP.use1 (rkey s) ?_
    exact WP.leaf (by rw [h]; rfl)
  · exact WP.leaf (by rw [h]; rfl)
theorem rright_loop (hX : LibX X) (e : TExpr) (hk : e.kids.length ≤ 1000000000) (hD : ∀ x ∈ e.kids, Does X 53 [.agg (eD x)] [] (.ret (vB (rightE x)) [])) (K : Ex → St → Id.T Out) (Q : Out → Prop)
    (hE : rightEs e.kids = true → WP X (K (.exit 0) ⟨[(1, .box 1 0)], [(1, eV e)]⟩) Q) (hR : rightEs e.kids = false → WP X (K .ret ⟨[(2, .lit false)], []⟩) Q) :
    ∀ (r p : List TExpr), e.kids = p ++ r → rightEs p = true → ∀ σ : St, getT σ.t 1 = .box 1 0 → getT σ.t 3 = vI p.length → getB σ.b 1 = some (eV e) → WP X (.loop (lp Tryz.f53 0) σ K) Q
  | r, p, h, hp, σ, g1, g3, gb => by
    refine WP.round ⟨[(1, .box 1 0), (3, vI p.length)], [(1, eV e)]⟩ ⟨⟨.inl g1.symm, .inl g3.symm, trivial⟩, ⟨WkB.box gb, trivial⟩⟩ ?_
    have hlen : e.kids.length = p.length + r.length := by rw [h]; simp
    cases r with
    | nil =>
      refine WP.iteF (by rw [dsAll_len]; simp at hlen; simp; omega) ?_
      refine WP.leaf ⟨⟨[(1, .box 1 0)], [(1, eV e)]⟩, ⟨⟨.inl rfl, trivial⟩, ⟨WkB.box rfl, trivial⟩⟩, hE (by rw [h]; simpa using hp)⟩
    | cons y r =>
      simp only [List.length_cons] at hlen
      refine WP.iteT (by rw [dsAll_len]; simp; omega) ?_
      refine WP.idx _ (by omega) (dsAll_get h) ?_
      refine WP.use1 (hD y (by rw [h]; simp)) ?_
      refine WP.ite (fun hx => ?_) (fun hx => ?_)
      · refine WP.leaf ⟨⟨[(2, .lit false)], []⟩, ⟨⟨.inl rfl, trivial⟩, trivial⟩, hR ?_⟩
        rw [h, rightEs_app, rightEs]
        simp at hx; simp [hx]
      · refine WP.leaf ?_
        refine rright_loop hX e hk hD K Q hE hR r (p ++ [y]) (by rw [h]; simp) (by rw [rightEs_app, hp]; simp at hx; simp [rightEs, hx]) _ rfl ?_ rfl
        show vI (IntKind.i64.wrap ((p.length : Int) + 1)) = _
        rw [wrapI (by omega) (by omega)]; simp
set_option maxHeartbeats 4000000 in
theorem rright_does (hX : LibX X) : ∀ (n : Nat) (e : TExpr), SizeOf.sizeOf e < n → smE e → Does X 53 [.agg (eD e)] [] (.ret (vB (rightE e)) [])
  | 0, e, h, _ => absurd h (Nat.not_lt_zero _)
  | n + 1, .mk k a of nm v op kids, hn, hs => by
    simp only [smE] at hs
    obtain ⟨h1, h2, h3, h4⟩ := hs
    refine DoesQ.eq (DoesQ.of Tryz.func53 (by kernel_rfl) ?_)
    refine rright_loop hX (.mk k a of nm v op kids) h3 (fun x hx => rright_does hX n x ?_ (smEs_mem h4 hx)) _ _ ?_ ?_ kids [] rfl rfl _ rfl rfl rfl
    · have := List.sizeOf_lt_of_mem hx
      simp only [TExpr.mk.sizeOf_spec] at hn
      have : (TExpr.mk k a of nm v op kids).kids = kids := rfl
      simp_all; omega
    · intro hk
      have hw := rword (X := X) nm h2
      have ho := rword (X := X) of h1
      have hv := literal_does (X := X) v
      have hk' : rightEs kids = true := hk
      have e1 := dsAll_len kids
      clear hk hn h1 h2 h3 h4
      dsimp only [eV, TExpr.k, TExpr.a, TExpr.of, TExpr.nm, TExpr.v, TExpr.op, TExpr.kids]
      rw [rightE, hk']
      refine WP.use1 hw ?_
      repeat' first | refine WP.iteT (by assumption) ?_ | refine WP.iteF (by assumption) ?_ | refine WP.ite (fun _ => ?_) (fun _ => ?_) | refine WP.leaf ?_ | refine WP.use1 hv ?_ | refine WP.use1 ho ?_ | refine WP.asrt (by kernel_rfl) ?_
      all_goals
        clear hw ho hv hX hk'
        refine congrArg (fun b => Out.ret (vB b) []) ?_
        unfold rightN namedOk bareOk noVal
        simp_all [bytes_empty]
        all_goals first | omega | (rw [Bool.eq_iff_iff]; simp; omega)
    · intro hk
      refine WP.leaf ?_
      have hk' : rightEs kids = false := hk
      rw [rightE, hk']; rfl
end Go.Proofs.YtaddhpeainliiaaGreatDoor.Id
/-! ## PrC -/
namespace Go.Proofs.YtaddhpeainliiaaGreatDoor.Id
open Go
set_option linter.unusedVariables false
set_option linter.unusedSimpArgs false
instance (s : List UInt8) : Decidable (Wordy s) := inferInstanceAs (Decidable (hdW s = true))
theorem word_hd {s : ByteArray} (h : isWord s = true) : Wordy (L s) := by
  unfold isWord at h
  rw [just_word] at h
  cases hl : L s with
  | nil => rw [hl] at h; cases h
  | cons c r =>
    rw [hl] at h
    simp only [nmOk, Bool.and_eq_true] at h
    show isW c = true
    unfold isW; rw [h.1.2.1]; rfl
section
variable (lit : TVal → List UInt8)
/-- what is asked of a literal's text -/
def LitFacts : Prop := ∀ v, litOk v = true → lit v ≠ [] ∧ lit v ≠ [123] ∧ lit v ≠ [40] ∧ lit v ≠ [125] ∧ lit v ≠ [41]
/-- how many levels an expression opens -/
def upN (k op : Int) (kb : List (Int × Int)) (ns : List Int) : Int :=
  if k = 3 then max 0 (uSeq ns) + 1
  else if k = 4 then match kb, ns with
    | [x], [n] => (if inBr k op x.1 x.2 false = true then n + 1 else n) + 1
    | _, _ => 0
  else if k = 5 then match kb, ns with
    | [x, y], [n, m] => max (if inBr k op x.1 x.2 false = true then n + 1 else n) (if inBr k op y.1 y.2 true = true then m + 1 else m)
    | _, _ => 0
  else 0
mutual
def upE : TExpr → Int
  | .mk k a of nm v op kids => upN k op (kids.map fun x => (x.k, x.op)) (upEs kids)
def upEs : List TExpr → List Int
  | [] => []
  | x :: r => upE x :: upEs r
end
theorem sgnN_le {op : Int} (h1 : 1 ≤ op) (h2 : op ≤ 14) : sgnN op ≤ 5 ∧ 1 ≤ sgnN op := by
  unfold sgnN
  repeat' split
  all_goals omega
theorem br_un (op k1 o1 : Int) : inBr 4 op k1 o1 false = decide (k1 = 5) := by unfold inBr; simp
theorem br_l {op : Int} (h1 : 1 ≤ op) (h2 : op ≤ 14) (k1 o1 : Int) : (decide (bnd k1 o1 < sgnN op) || (decide (sgnN op = 3) && decide (bnd k1 o1 = sgnN op))) = inBr 5 op k1 o1 false := by
  have := sgnN_le h1 h2
  unfold bnd inBr
  by_cases hk : k1 = 5
  · rw [Bool.eq_iff_iff]; simp [hk]; omega
  · rw [Bool.eq_iff_iff]; simp [hk]; omega
theorem br_r {op : Int} (h1 : 1 ≤ op) (h2 : op ≤ 14) (k1 o1 : Int) : decide (bnd k1 o1 ≤ sgnN op) = inBr 5 op k1 o1 true := by
  have := sgnN_le h1 h2
  unfold bnd inBr
  by_cases hk : k1 = 5
  · rw [Bool.eq_iff_iff]; simp [hk]
  · rw [Bool.eq_iff_iff]; simp [hk]; omega
variable {lit}
theorem node_is (hl : LitFacts lit) {k : Int} {of nm : ByteArray} {v : TVal} {op : Int} {kb : List (Int × Int)} (h : rightN k of nm v op kb.length = true) (ps : List Pc) (hp : ∀ x ∈ ps, x.ok) (hn : ps.length = kb.length) :
    ∃ l, Is (wNode lit k (L of) (L nm) v op kb (ps.map Pc.f)) (rNode lit k (L of) (L nm) v op kb (ps.map Pc.s)) l (upN k op kb (ps.map Pc.n)) := by
  have hname : namedOk of nm = true → Is (wName (L of) (L nm)) (fun _ => rName (L of) (L nm)) (lt (L nm)) 0 := fun h => by
    unfold namedOk at h
    simp only [Bool.and_eq_true, Bool.or_eq_true, decide_eq_true_eq] at h
    exact name_is (h.2.imp (fun e => by rw [e]; rfl) word_hd) (word_hd h.1)
  unfold rightN at h
  by_cases k1 : k = 1
  · subst k1
    rw [if_pos rfl] at h
    simp only [Bool.and_eq_true] at h
    obtain ⟨h0, h1, h2, h3, h4⟩ := hl v h.1
    exact ⟨_, tok_is h0 ⟨h1, h2, h3, h4⟩⟩
  by_cases k2 : k = 2
  · subst k2
    rw [if_neg (by decide), if_pos rfl] at h
    simp only [Bool.and_eq_true] at h
    exact ⟨_, hname h.1⟩
  by_cases k3 : k = 3
  · subst k3
    rw [if_neg (by decide), if_neg (by decide), if_pos rfl] at h
    simp only [Bool.and_eq_true] at h
    exact ⟨_, call_is (hname h.1) ps hp⟩
  by_cases k4 : k = 4
  · subst k4
    rw [if_neg (by decide), if_neg (by decide), if_neg (by decide), if_pos rfl] at h
    simp only [Bool.and_eq_true, decide_eq_true_eq] at h
    obtain ⟨_, _, _, _, h1⟩ := h
    match kb, ps, h1, hn with
    | [x], [y], _, _ =>
      have := una_is (op := op) ((hp y (by simp)).br (decide (x.1 = 5)))
      refine ⟨_, this.conv ?_ rfl ?_⟩
      · funext t; show _ = sgnT op ++ rIn (inBr 4 op x.1 x.2 false) (y.s t); rw [br_un]
      · show _ = (if inBr 4 op x.1 x.2 false = true then y.n + 1 else y.n) + 1; rw [br_un]
  by_cases k5 : k = 5
  · subst k5
    rw [if_neg (by decide), if_neg (by decide), if_neg (by decide), if_neg (by decide), if_pos rfl] at h
    simp only [Bool.and_eq_true, decide_eq_true_eq] at h
    obtain ⟨_, _, h0, h9, h1⟩ := h
    match kb, ps, h1, hn with
    | [x, y], [u, w], _, _ =>
      have := bin_is (op := op) ((hp u (by simp)).br (decide (bnd x.1 x.2 < sgnN op) || (decide (sgnN op = 3) && decide (bnd x.1 x.2 = sgnN op)))) ((hp w (by simp)).br (decide (bnd y.1 y.2 ≤ sgnN op)))
      refine ⟨_, this.conv ?_ rfl ?_⟩
      · funext t; rw [br_l h0 h9, br_r h0 h9]; rfl
      · rw [br_l h0 h9, br_r h0 h9]; rfl
  rw [if_neg k1, if_neg k2, if_neg k3, if_neg k4, if_neg k5] at h
  cases h
theorem pcs_of : ∀ (l : List TExpr), (∀ e ∈ l, ∃ i, Is (wE lit e) (rE lit e) i (upE e)) → ∃ ps : List Pc, (∀ x ∈ ps, x.ok) ∧ ps.length = l.length ∧ ps.map Pc.f = wEs lit l ∧ ps.map Pc.s = rEs lit l ∧ ps.map Pc.n = upEs l
  | [], _ => ⟨[], by simp, rfl, by rw [wEs]; rfl, by rw [rEs]; rfl, by rw [upEs]; rfl⟩
  | x :: r, h => by
    obtain ⟨ps, h1, h2, h3, h4, h5⟩ := pcs_of r fun e he => h e (by simp [he])
    obtain ⟨i, hi⟩ := h x (by simp)
    refine ⟨⟨wE lit x, rE lit x, i, upE x⟩ :: ps, ?_, by simp [h2], by rw [wEs, List.map_cons, h3], by rw [rEs, List.map_cons, h4], by rw [upEs, List.map_cons, h5]⟩
    intro y hy
    rcases List.mem_cons.1 hy with rfl | hy
    · exact hi
    · exact h1 y hy
theorem rightEs_mem : ∀ {l : List TExpr} {e : TExpr}, rightEs l = true → e ∈ l → rightE e = true
  | x :: r, e, h, he => by
    rw [rightEs, Bool.and_eq_true] at h
    rcases List.mem_cons.1 he with rfl | he
    · exact h.1
    · exact rightEs_mem h.2 he
/-- an expression is a piece of text -/
theorem expr_is (hl : LitFacts lit) : ∀ (n : Nat) (e : TExpr), SizeOf.sizeOf e < n → rightE e = true → ∃ i, Is (wE lit e) (rE lit e) i (upE e)
  | 0, _, h, _ => absurd h (by omega)
  | n + 1, .mk k a of nm v op kids, hn, h => by
    rw [rightE, Bool.and_eq_true] at h
    obtain ⟨ps, h1, h2, h3, h4, h5⟩ := pcs_of kids fun e he => expr_is hl n e (by have := List.sizeOf_lt_of_mem he; simp at hn; omega) (rightEs_mem h.1 he)
    have := node_is hl (kb := kids.map fun x => (x.k, x.op)) (by rw [List.length_map]; exact h.2) ps h1 (by rw [List.length_map]; exact h2)
    rw [h3, h4, h5] at this
    rw [wE, rE, upE]
    exact this
theorem up_ge (hl : LitFacts lit) {e : TExpr} (h : rightE e = true) : 0 ≤ upE e := let ⟨_, h⟩ := expr_is hl _ e (Nat.lt_succ_self _) h; h.1
end
end Go.Proofs.YtaddhpeainliiaaGreatDoor.Id
/-! ## PrD -/
namespace Go.Proofs.YtaddhpeainliiaaGreatDoor.Id
open Go
set_option linter.unusedVariables false
set_option linter.unusedSimpArgs false
abbrev yVar : List UInt8 := [118, 97, 114]
abbrev yIf : List UInt8 := [105, 102]
abbrev yElse : List UInt8 := [101, 108, 115, 101]
abbrev yWhile : List UInt8 := [119, 104, 105, 108, 101]
abbrev yReturn : List UInt8 := [114, 101, 116, 117, 114, 110]
abbrev yPrint : List UInt8 := [112, 114, 105, 110, 116]
def tb (t : Bool) (i : Int) : List UInt8 := if t = true then [] else List.replicate i.toNat 9
def nl (t : Bool) : List UInt8 := if t = true then [] else [10]
def pline (p : PSt) : PSt := pgap (10 :: List.replicate p.tabs.toNat 9) p
def kgap (l : UInt8) (s : List UInt8) (b : Bool) : List UInt8 := if b = true then sepL l s else [32]
/-- a writing that is a piece of text where so many tabulators stand -/
def IsT (i : Int) (f : PSt → PSt) (s : Bool → List UInt8) (l : UInt8) (n : Int) : Prop := 0 ≤ n ∧ (∀ t, s t ≠ []) ∧ ∀ p : PSt, p.tabs = i → p.lv ≤ p.most → f p = eff (s p.tight) l n p
theorem Is.toT {f : PSt → PSt} {s : Bool → List UInt8} {l : UInt8} {n : Int} (h : Is f s l n) (i : Int) : IsT i f s l n := ⟨h.1, h.2.1, fun p _ hp => h.2.2 p hp⟩
theorem IsT.conv {i : Int} {f : PSt → PSt} {s s' : Bool → List UInt8} {l l' : UInt8} {n n' : Int} (h : IsT i f s l n) (e : s = s') (e2 : l = l') (e3 : n = n') : IsT i f s' l' n' := by subst e e2 e3; exact h
theorem IsT.seq {i : Int} {f g : PSt → PSt} {s t : Bool → List UInt8} {l l2 : UInt8} {n n2 : Int} (h : IsT i f s l n) (k : IsT i g t l2 n2) (hs : ∀ b, sepL l (t b) = []) : IsT i (fun p => g (f p)) (fun b => s b ++ t b) l2 (max n n2) := by
  refine ⟨by have := h.1; omega, fun b => by have := h.2.1 b; simp [this], fun p hi hp => ?_⟩
  show g (f p) = eff (s p.tight ++ t p.tight) l2 (max n n2) p
  rw [h.2.2 p hi hp, k.2.2 _ (show (eff (s p.tight) l n p).tabs = i from hi) (eff_ok hp), eff_comp (h.2.1 _), eff_tight, hs]; rfl
/-- a piece, a gap, and another: a blank where the form or the words ask for one -/
theorem IsT.gap {i : Int} {f g : PSt → PSt} {s t : Bool → List UInt8} {l l2 : UInt8} {n n2 : Int} (h : IsT i f s l n) (k : IsT i g t l2 n2) : IsT i (fun p => g (pgap [32] (f p))) (fun b => s b ++ (kgap l (t true) b ++ t b)) l2 (max n n2) := by
  refine ⟨by have := h.1; omega, fun b => by have := h.2.1 b; simp [this], fun p hi hp => ?_⟩
  show g (pgap [32] (f p)) = eff (s p.tight ++ (kgap l (t true) p.tight ++ t p.tight)) l2 (max n n2) p
  rw [h.2.2 p hi hp]
  rcases pgap_eff (s := s p.tight) (l := l) (n := n) (p := p) [32] with ⟨e, ht⟩ | ⟨e, ht⟩
  · rw [e, k.2.2 _ (show (eff (s p.tight) l n p).tabs = i from hi) (eff_ok hp), eff_comp (h.2.1 _), eff_tight, ht]; rfl
  · rw [e]
    refine (k.2.2 _ (by exact hi) (show p.lv ≤ max p.most (p.lv + n) by omega)).trans ?_
    show eff (t p.tight) l2 n2 _ = _
    rw [ht]
    unfold eff kgap
    rw [sepL_app (h.2.1 _), sep0]
    simp only [PSt.mk.injEq, List.append_assoc, true_and, List.nil_append]
    refine ⟨rfl, ?_⟩
    omega
/-- a line's end behind a piece behind which nothing stands last -/
theorem IsT.nl {i : Int} {f : PSt → PSt} {s : Bool → List UInt8} {n : Int} (h : IsT i f s 0 n) : IsT i (fun p => pgap [10] (f p)) (fun b => s b ++ Id.nl b) 0 n := by
  refine ⟨h.1, fun b => by have := h.2.1 b; simp [this], fun p hi hp => ?_⟩
  show pgap [10] (f p) = eff (s p.tight ++ Id.nl p.tight) 0 n p
  rw [h.2.2 p hi hp]
  rcases pgap_eff (s := s p.tight) (l := 0) (n := n) (p := p) [10] with ⟨e, ht⟩ | ⟨e, ht⟩
  · rw [e, ht]; unfold Id.nl; simp
  · rw [e, ht]
    unfold Id.nl eff
    rw [sepL_app (h.2.1 _)]
    simp
theorem tok_isT {i : Int} {s : List UInt8} (h : s ≠ []) (hb : s ≠ [123] ∧ s ≠ [40] ∧ s ≠ [125] ∧ s ≠ [41]) : IsT i (ptok s) (fun _ => s) (lt s) 0 := (tok_is h hb).toT i
theorem kgap0 {s : List UInt8} (b : Bool) : kgap 0 s b = gp b := by unfold kgap gp; rw [sep0]
theorem kgapN {l : UInt8} {s : List UInt8} (b : Bool) (h : hdW s = false) : kgap l s b = gp b := by unfold kgap gp; rw [sepN h]
theorem kgapW {l : UInt8} {s : List UInt8} (b : Bool) (h : hdW s = true) (hl : l ≠ 0) : kgap l s b = [32] := by
  have e : sepL l s = [32] := if_pos ⟨h, hl⟩
  unfold kgap; rw [e]; split <;> rfl
theorem lt_ne {s : List UInt8} (h : Wordy s) : lt s ≠ 0 := by
  cases s with
  | nil => cases h
  | cons c r =>
    have h : isW c = true := h
    show (match isW c with | true => c | false => 0) ≠ 0
    rw [h]
    intro e
    have e : c = 0 := e
    subst e
    revert h; decide
/-! ### blocks -/
structure Sc where
  f : PSt → PSt
  s : Bool → Int → List UInt8
  n : Int
def Sc.ok (x : Sc) : Prop := ∀ i, 0 ≤ i → IsT i x.f (fun t => x.s t i) 0 x.n
def wLines : List (PSt → PSt) → PSt → PSt
  | [], p => p
  | f :: r, p => wLines r (f (pline p))
def wBlk (fs : List (PSt → PSt)) (p : PSt) : PSt :=
  let q := ptok [123] p
  let r := wLines fs { q with tabs := q.tabs + 1 }
  ptok [125] (pline { r with tabs := r.tabs - 1 })
def rLines : List (Bool → Int → List UInt8) → Bool → Int → List UInt8
  | [], _, _ => []
  | s :: r, t, j => tb t j ++ (s t j ++ (nl t ++ rLines r t j))
def aLines : List (Bool → Int → List UInt8) → Bool → Int → List UInt8
  | [], _, _ => []
  | s :: r, t, j => nl t ++ (tb t j ++ (s t j ++ aLines r t j))
theorem lines_eq (t : Bool) (j : Int) (z : List UInt8) : ∀ l, aLines l t j ++ (nl t ++ z) = nl t ++ (rLines l t j ++ z)
  | [] => rfl
  | s :: r => by
    have := lines_eq t j z r
    simp only [aLines, rLines, List.append_assoc] at this ⊢
    rw [this]
def rBlk (ss : List (Bool → Int → List UInt8)) (t : Bool) (i : Int) : List UInt8 := 123 :: (nl t ++ (rLines ss t (i + 1) ++ (tb t i ++ [125])))
theorem pline_eq {q : PSt} (h : q.last = 0) : pline q = { q with out := q.out ++ (nl q.tight ++ tb q.tight q.tabs) } := by
  unfold pline pgap nl tb
  by_cases ht : q.tight = true
  · obtain ⟨o, t, l, i, v, m⟩ := q
    have ht : t = true := ht
    subst ht; simp
  · obtain ⟨o, t, l, i, v, m⟩ := q
    have ht : t = false := by simpa using ht
    have h : l = 0 := h
    subst ht h; simp
theorem lines_ok : ∀ (l : List Sc), (∀ x ∈ l, x.ok) → ∀ (q : PSt), 0 ≤ q.tabs → q.lv ≤ q.most → q.last = 0 →
    wLines (l.map Sc.f) q = { q with out := q.out ++ aLines (l.map Sc.s) q.tight q.tabs, most := max q.most (q.lv + uSeq (l.map Sc.n)) }
  | [], _, q, ht, hq, hl => by
    have : max q.most q.lv = q.most := by omega
    simp [wLines, aLines, uSeq, this]
  | x :: r, hx, q, ht, hq, hl => by
    have hx0 := hx x (by simp) q.tabs ht
    rw [List.map_cons, wLines, pline_eq hl]
    have e1 : x.f { q with out := q.out ++ (nl q.tight ++ tb q.tight q.tabs) } = eff (x.s q.tight q.tabs) 0 x.n { q with out := q.out ++ (nl q.tight ++ tb q.tight q.tabs) } := hx0.2.2 { q with out := q.out ++ (nl q.tight ++ tb q.tight q.tabs) } rfl hq
    rw [e1, lines_ok r (fun y hy => hx y (by simp [hy])) _ (by exact ht) (eff_ok (by exact hq)) rfl]
    unfold eff
    have e2 : sepL q.last (x.s q.tight q.tabs) = [] := by rw [hl, sep0]
    simp only [e2, PSt.mk.injEq, List.append_assoc, List.nil_append, true_and, List.map_cons, uSeq, aLines, hl, sep0]
    omega
theorem uSeq_ge : ∀ l : List Int, 0 ≤ uSeq l
  | [] => Int.le_refl _
  | n :: r => by have := uSeq_ge r; simp only [uSeq]; omega
theorem blk_is {l : List Sc} (hl : ∀ x ∈ l, x.ok) {i : Int} (hi : 0 ≤ i) : IsT i (wBlk (l.map Sc.f)) (fun t => rBlk (l.map Sc.s) t i) 0 (1 + uSeq (l.map Sc.n)) := by
  have hu := uSeq_ge (l.map Sc.n)
  refine ⟨by omega, fun t => by simp [rBlk], fun p hp hlv => ?_⟩
  have e1 : ptok [123] p = popen (pput [123] p) := by unfold ptok; rw [if_pos (.inl rfl)]
  have e3 : ∀ q, ptok [125] q = pshut (pput [125] q) := fun q => by unfold ptok; rw [if_neg (by decide), if_pos (.inl rfl)]
  have s1 : ∀ z r, sepL z (123 :: r) = [] := fun z r => sepN (by show isW 123 = false; decide)
  have s2 : ∀ z, sepL z [125] = [] := fun z => sepN (by decide)
  have e5 : lt [123] = 0 := by decide
  have e6 : lt [125] = 0 := by decide
  unfold wBlk
  simp only []
  rw [e1]
  have h1 := lines_ok l hl { popen (pput [123] p) with tabs := (popen (pput [123] p)).tabs + 1 } (by show 0 ≤ p.tabs + 1; omega) (by show p.lv + 1 ≤ max p.most (p.lv + 1); omega) e5
  rw [h1, pline_eq (by exact e5), e3]
  have h2 := lines_eq p.tight (i + 1) (tb p.tight i ++ [125]) (l.map Sc.s)
  subst hp
  have e7 : p.tabs + 1 - 1 = p.tabs := by omega
  simp only [pshut, pput, popen, eff, rBlk, s1, s2, e5, e6, e7, List.nil_append, PSt.mk.injEq, List.append_assoc, true_and, and_true, List.cons_append]
  refine ⟨?_, by omega, by omega⟩
  rw [← h2]
/-! ### statements -/
section
variable (lit : TVal → List UInt8)
def wSN (k : Int) (nm : List UInt8) (ne : Bool) (fe : PSt → PSt) (bs : List (PSt → PSt)) (ch : Bool) (es : List (PSt → PSt)) (he : Bool) (p : PSt) : PSt :=
  if k = 1 then ptok [59] (fe (pgap [32] (ptok [61] (pgap [32] (ptok nm (pgap [32] (ptok yVar p)))))))
  else if k = 2 then ptok [59] (fe (pgap [32] (ptok [61] (pgap [32] (ptok nm p)))))
  else if k = 3 then
    let q := wBlk bs (pgap [32] (fe (pgap [32] (ptok yIf p))))
    if he = true then
      let r := pgap [32] (ptok yElse (pgap [32] q))
      if ch = true then match es with
        | [g] => g r
        | _ => r
      else wBlk es r
    else q
  else if k = 4 then wBlk bs (pgap [32] (fe (pgap [32] (ptok yWhile p))))
  else if k = 5 then ptok [59] (if ne = true then ptok yReturn p else fe (pgap [32] (ptok yReturn p)))
  else if k = 6 then ptok [59] (fe (pgap [32] (ptok yPrint p)))
  else if k = 7 then ptok [59] (fe p)
  else ptok [59] p
def chained (els : List Int) : Bool := match els with
  | [x] => decide (x = 3)
  | _ => false
mutual
def wS : TStmt → PSt → PSt
  | .mk k a nm e body els he => wSN k (L nm) (decide (e.k = 0)) (wE lit e) (wSs body) (chained (els.map TStmt.k)) (wSs els) he
def wSs : List TStmt → List (PSt → PSt)
  | [] => []
  | x :: r => wS x :: wSs r
end
/-- a key and an expression -/
def rKey (k e et : List UInt8) (t : Bool) : List UInt8 := k ++ (kgap 1 et t ++ e)
def rSN (k : Int) (nm : List UInt8) (ne : Bool) (se : Bool → List UInt8) (bs : List (Bool → Int → List UInt8)) (ch : Bool) (es : List (Bool → Int → List UInt8)) (he : Bool) (t : Bool) (i : Int) : List UInt8 :=
  if k = 1 then yVar ++ (32 :: (nm ++ (gp t ++ (61 :: (gp t ++ (se t ++ [59]))))))
  else if k = 2 then nm ++ (gp t ++ (61 :: (gp t ++ (se t ++ [59]))))
  else if k = 3 then
    rKey yIf (se t) (se true) t ++ (gp t ++ (rBlk bs t i ++
    if he = true then
      if ch = true then match es with
        | [g] => gp t ++ (yElse ++ (32 :: g t i))
        | _ => []
      else gp t ++ (yElse ++ (gp t ++ rBlk es t i))
    else []))
  else if k = 4 then rKey yWhile (se t) (se true) t ++ (gp t ++ rBlk bs t i)
  else if k = 5 then if ne = true then yReturn ++ [59] else rKey yReturn (se t) (se true) t ++ [59]
  else if k = 6 then rKey yPrint (se t) (se true) t ++ [59]
  else se t ++ [59]
mutual
def rS : TStmt → Bool → Int → List UInt8
  | .mk k a nm e body els he => rSN k (L nm) (decide (e.k = 0)) (rE lit e) (rSs body) (chained (els.map TStmt.k)) (rSs els) he
def rSs : List TStmt → List (Bool → Int → List UInt8)
  | [] => []
  | x :: r => rS x :: rSs r
end
def upSN (k : Int) (ue : Int) (bs : List Int) (ch : Bool) (es : List Int) (he : Bool) : Int :=
  max ue (max (if k = 3 ∨ k = 4 then 1 + uSeq bs else 0) (if he = true then (if ch = true then uSeq es else 1 + uSeq es) else 0))
mutual
def upS : TStmt → Int
  | .mk k a nm e body els he => upSN k (upE e) (upSs body) (chained (els.map TStmt.k)) (upSs els) he
def upSs : List TStmt → List Int
  | [] => []
  | x :: r => upS x :: upSs r
end
variable {lit}
theorem lt_key {s : List UInt8} (h : Wordy s) (e et : List UInt8) (t : Bool) : s ++ (kgap (lt s) et t ++ e) = rKey s e et t := by
  have := lt_ne h
  unfold rKey kgap sepL
  by_cases ht : t = true
  · by_cases hh : hdW et = true
    · simp [ht, hh, this]
    · simp [ht, hh]
  · simp [ht]
theorem semi_hd : hdW [59] = false := by decide
theorem semi_lt : lt [59] = 0 := by decide
/-- a key, an expression -/
theorem key_is {i : Int} {s : List UInt8} (h : Wordy s) {fe : PSt → PSt} {se : Bool → List UInt8} {l : UInt8} {n : Int} (he : Is fe se l n) : IsT i (fun p => fe (pgap [32] (ptok s p))) (fun t => rKey s (se t) (se true) t) l n := by
  have h0 := he.1
  exact ((tok_isT h.ne h.br).gap (he.toT i)).conv (by funext t; exact lt_key h _ _ t) rfl (by omega)
theorem semi_is {i : Int} {f : PSt → PSt} {s : Bool → List UInt8} {l : UInt8} {n : Int} (h : IsT i f s l n) : IsT i (fun p => ptok [59] (f p)) (fun t => s t ++ [59]) 0 n := by
  have h0 := h.1
  exact (h.seq (tok_isT (s := [59]) (by simp) (by decide)) (fun _ => sepN semi_hd)).conv rfl semi_lt (by omega)
/-- a name, the sign of equality, an expression -/
theorem eq_is {i : Int} {nm : List UInt8} (h : Wordy nm) {fe : PSt → PSt} {se : Bool → List UInt8} {l : UInt8} {n : Int} (he : Is fe se l n) : IsT i (fun p => ptok [59] (fe (pgap [32] (ptok [61] (pgap [32] (ptok nm p)))))) (fun t => nm ++ (gp t ++ (61 :: (gp t ++ (se t ++ [59]))))) 0 n := by
  have h0 := he.1
  have h1 := semi_is (((tok_isT (i := i) h.ne h.br).gap (tok_isT (s := [61]) (by simp) (by decide))).gap (he.toT i))
  refine h1.conv ?_ rfl (by omega)
  funext t
  have e1 : lt [61] = 0 := by decide
  rw [e1, kgap0, kgapN t (by decide)]
  simp
theorem blkT_is {i : Int} {f : PSt → PSt} {s : Bool → List UInt8} {l0 : UInt8} {n : Int} (h : IsT i f s l0 n) {l : List Sc} (hl : ∀ x ∈ l, x.ok) (hi : 0 ≤ i) : IsT i (fun p => wBlk (l.map Sc.f) (pgap [32] (f p))) (fun t => s t ++ (gp t ++ rBlk (l.map Sc.s) t i)) 0 (max n (1 + uSeq (l.map Sc.n))) := by
  refine (h.gap (blk_is hl hi)).conv ?_ rfl rfl
  funext t
  rw [kgapN t (by show isW 123 = false; decide)]
end
end Go.Proofs.YtaddhpeainliiaaGreatDoor.Id
/-! ## PrE -/
namespace Go.Proofs.YtaddhpeainliiaaGreatDoor.Id
open Go
set_option linter.unusedVariables false
set_option linter.unusedSimpArgs false
section
variable {lit : TVal → List UInt8}
theorem wSs_map : ∀ l : List TStmt, wSs lit l = l.map (wS lit)
  | [] => by rw [wSs]; rfl
  | x :: r => by rw [wSs, wSs_map r]; rfl
theorem rSs_map : ∀ l : List TStmt, rSs lit l = l.map (rS lit)
  | [] => by rw [rSs]; rfl
  | x :: r => by rw [rSs, rSs_map r]; rfl
theorem upSs_map : ∀ l : List TStmt, upSs l = l.map upS
  | [] => by rw [upSs]; rfl
  | x :: r => by rw [upSs, upSs_map r]; rfl
variable (lit) in
def sc (s : TStmt) : Sc := ⟨wS lit s, rS lit s, upS s⟩
theorem sc_f (l : List TStmt) : (l.map (sc lit)).map Sc.f = wSs lit l := by rw [wSs_map, List.map_map]; rfl
theorem sc_s (l : List TStmt) : (l.map (sc lit)).map Sc.s = rSs lit l := by rw [rSs_map, List.map_map]; rfl
theorem sc_n (l : List TStmt) : (l.map (sc lit)).map Sc.n = upSs l := by rw [upSs_map, List.map_map]; rfl
theorem rightE_k {e : TExpr} (h : rightE e = true) : e.k ≠ 0 := by
  obtain ⟨k, a, of, nm, v, op, kids⟩ := e
  rw [rightE, Bool.and_eq_true] at h
  intro e
  have e : k = 0 := e
  subst e
  have := h.2
  unfold rightN at this
  simp at this
theorem noneE_k {e : TExpr} (h : noneE e = true) : e.k = 0 := by
  unfold noneE noneN at h
  simp only [Bool.and_eq_true, decide_eq_true_eq] at h
  exact h.1
theorem upE_none {e : TExpr} (h : e.k = 0) : upE e = 0 := by
  obtain ⟨k, a, of, nm, v, op, kids⟩ := e
  have h : k = 0 := h
  subst h
  rw [upE]; unfold upN
  rw [if_neg (by decide), if_neg (by decide), if_neg (by decide)]
theorem rightSs_mem : ∀ {l : List TStmt} {e : TStmt}, rightSs l = true → e ∈ l → rightS e = true
  | x :: r, e, h, he => by
    rw [rightSs, Bool.and_eq_true] at h
    rcases List.mem_cons.1 he with rfl | he
    · exact h.1
    · exact rightSs_mem h.2 he
theorem chained_t {els : List TStmt} (h : chained (els.map TStmt.k) = true) : ∃ x, els = [x] ∧ x.k = 3 := by
  match els, h with
  | [x], h => exact ⟨x, rfl, by simpa [chained] using h⟩
  | [], h => cases h
  | _ :: _ :: _, h => cases h
theorem stmt_is (hl : LitFacts lit) : ∀ (n : Nat) (s : TStmt), SizeOf.sizeOf s < n → rightS s = true → (sc lit s).ok ∧ (s.k = 3 → ∀ t i, hdW (rS lit s t i) = true)
  | 0, _, h, _ => absurd h (by omega)
  | n + 1, .mk k a nm e body els he, hn, h => by
    rw [rightS, Bool.and_eq_true, Bool.and_eq_true, Bool.and_eq_true] at h
    obtain ⟨hb, hes, hel, hN⟩ := h
    simp only [TStmt.mk.sizeOf_spec] at hn
    have hbok : ∀ x ∈ body.map (sc lit), x.ok := fun x hx => by
      obtain ⟨s, hs, rfl⟩ := List.mem_map.1 hx
      exact (stmt_is hl n s (by have := List.sizeOf_lt_of_mem hs; omega) (rightSs_mem hb hs)).1
    have heok : ∀ x ∈ els.map (sc lit), x.ok := fun x hx => by
      obtain ⟨s, hs, rfl⟩ := List.mem_map.1 hx
      exact (stmt_is hl n s (by have := List.sizeOf_lt_of_mem hs; omega) (rightSs_mem hes hs)).1
    have hch : ∀ x, els = [x] → x.k = 3 → ∀ t i, hdW (rS lit x t i) = true := fun x e hk => (stmt_is hl n x (by subst e; simp only [List.cons.sizeOf_spec] at hn; omega) (rightSs_mem hes (by rw [e]; simp))).2 hk
    have hE : rightE e = true → ∃ l, Is (wE lit e) (rE lit e) l (upE e) := fun h => expr_is hl _ e (Nat.lt_succ_self _) h
    unfold rightSN at hN
    show (∀ i, 0 ≤ i → IsT i (wS lit (.mk k a nm e body els he)) (fun t => rS lit (.mk k a nm e body els he) t i) 0 (upS (.mk k a nm e body els he))) ∧ (k = 3 → _)
    rw [wS, rS, upS]
    by_cases k1 : k = 1
    · subst k1
      rw [if_pos (.inl rfl)] at hN
      simp only [Bool.and_eq_true, Bool.not_eq_true', decide_eq_true_eq] at hN
      obtain ⟨h1, h2, rfl, h4⟩ := hN
      obtain ⟨l, hI⟩ := hE h1
      have h0 := hI.1
      have hw := word_hd h4
      refine ⟨fun i hi => ((tok_isT (s := yVar) (by simp) (by decide)).gap (eq_is hw hI)).conv ?_ rfl ?_, fun h => absurd h (by decide)⟩
      · funext t
        rw [kgapW t (by rw [hdW_app hw.ne]; exact hw) (by decide)]
        rfl
      · unfold upSN
        simp
        omega
    by_cases k2 : k = 2
    · subst k2
      rw [if_pos (.inr rfl)] at hN
      simp only [Bool.and_eq_true, Bool.not_eq_true', decide_eq_true_eq] at hN
      obtain ⟨h1, h2, rfl, h4⟩ := hN
      obtain ⟨l, hI⟩ := hE h1
      have h0 := hI.1
      refine ⟨fun i hi => (eq_is (word_hd h4) hI).conv rfl rfl ?_, fun h => absurd h (by decide)⟩
      unfold upSN
      simp
      omega
    by_cases k3 : k = 3
    · subst k3
      rw [if_neg (by decide), if_pos rfl] at hN
      simp only [Bool.and_eq_true, Bool.not_eq_true', decide_eq_true_eq] at hN
      obtain ⟨l, hI⟩ := hE hN.1
      have h0 := hI.1
      have hu := uSeq_ge (upSs body)
      refine ⟨fun i hi => ?_, fun _ t i => ?_⟩
      · have hq := blkT_is (key_is (i := i) (s := yIf) (by decide) hI) hbok hi
        rw [sc_f, sc_s, sc_n] at hq
        cases he with
        | false =>
          refine hq.conv ?_ rfl ?_
          · funext t
            show _ = rKey yIf (rE lit e t) (rE lit e true) t ++ (gp t ++ (rBlk (rSs lit body) t i ++ []))
            rw [List.append_nil]
          · unfold upSN; simp; omega
        | true =>
          have hr := hq.gap (tok_isT (s := yElse) (by simp) (by decide))
          cases hc : chained (els.map TStmt.k) with
          | true =>
            obtain ⟨x, rfl, hx⟩ := chained_t hc
            have hg : IsT i (wS lit x) (fun t => rS lit x t i) 0 (upS x) := heok (sc lit x) (by simp) i hi
            have hg0 := hg.1
            have h2 := hr.gap hg
            refine h2.conv ?_ rfl ?_
            · funext t
              show _ = rKey yIf (rE lit e t) (rE lit e true) t ++ (gp t ++ (rBlk (rSs lit body) t i ++ (gp t ++ (yElse ++ (32 :: rS lit x t i)))))
              rw [kgapW t (hch x rfl hx true i) (by decide), kgap0]
              simp
            · unfold upSN
              rw [upSs, upSs]
              simp [uSeq]
              omega
          | false =>
            have hb2 := blk_is heok hi
            rw [sc_f, sc_s, sc_n] at hb2
            have hu2 := uSeq_ge (upSs els)
            have h2 := hr.gap hb2
            refine h2.conv ?_ rfl ?_
            · funext t
              show _ = rKey yIf (rE lit e t) (rE lit e true) t ++ (gp t ++ (rBlk (rSs lit body) t i ++ (gp t ++ (yElse ++ (gp t ++ rBlk (rSs lit els) t i)))))
              rw [kgap0, kgapN t (show hdW (rBlk (rSs lit els) true i) = false by show isW 123 = false; decide)]
              simp
            · unfold upSN
              simp
              omega
      · show hdW (yIf ++ _) = true
        rw [hdW_app (by simp)]; decide
    by_cases k4 : k = 4
    · subst k4
      rw [if_neg (by decide), if_neg (by decide), if_pos rfl] at hN
      simp only [Bool.and_eq_true, Bool.not_eq_true', decide_eq_true_eq] at hN
      obtain ⟨h1, h2, rfl⟩ := hN
      obtain ⟨l, hI⟩ := hE h1
      have h0 := hI.1
      have hu := uSeq_ge (upSs body)
      refine ⟨fun i hi => ?_, fun h => absurd h (by decide)⟩
      have hq := blkT_is (key_is (i := i) (s := yWhile) (by decide) hI) hbok hi
      rw [sc_f, sc_s, sc_n] at hq
      refine hq.conv rfl rfl ?_
      unfold upSN; simp; omega
    by_cases k5 : k = 5
    · subst k5
      rw [if_neg (by decide), if_neg (by decide), if_neg (by decide), if_pos rfl] at hN
      simp only [Bool.and_eq_true, Bool.or_eq_true, Bool.not_eq_true', decide_eq_true_eq] at hN
      obtain ⟨h1, h2, rfl, h4⟩ := hN
      refine ⟨fun i hi => ?_, fun h => absurd h (by decide)⟩
      rcases h1 with h1 | h1
      · obtain ⟨l, hI⟩ := hE h1
        have h0 := hI.1
        rw [decide_eq_false (rightE_k h1)]
        have hq := semi_is (key_is (i := i) (s := yReturn) (by decide) hI)
        refine hq.conv rfl rfl ?_
        unfold upSN; simp; omega
      · rw [decide_eq_true (noneE_k h1), upE_none (noneE_k h1)]
        refine (semi_is (tok_isT (s := yReturn) (by simp) (by decide))).conv rfl rfl ?_
        unfold upSN; simp
    by_cases k6 : k = 6
    · subst k6
      rw [if_neg (by decide), if_neg (by decide), if_neg (by decide), if_neg (by decide), if_pos rfl] at hN
      simp only [Bool.and_eq_true, Bool.not_eq_true', decide_eq_true_eq] at hN
      obtain ⟨h1, h2, rfl, h4⟩ := hN
      obtain ⟨l, hI⟩ := hE h1
      have h0 := hI.1
      refine ⟨fun i hi => (semi_is (key_is (i := i) (s := yPrint) (by decide) hI)).conv rfl rfl ?_, fun h => absurd h (by decide)⟩
      unfold upSN; simp; omega
    by_cases k7 : k = 7
    · subst k7
      rw [if_neg (by decide), if_neg (by decide), if_neg (by decide), if_neg (by decide), if_neg (by decide), if_pos rfl] at hN
      simp only [Bool.and_eq_true, Bool.not_eq_true', decide_eq_true_eq] at hN
      obtain ⟨h1, h2, rfl, h4⟩ := hN
      obtain ⟨l, hI⟩ := hE h1
      have h0 := hI.1
      refine ⟨fun i hi => (semi_is (hI.toT i)).conv rfl rfl ?_, fun h => absurd h (by decide)⟩
      unfold upSN; simp; omega
    rw [if_neg (by omega), if_neg k3, if_neg k4, if_neg k5, if_neg k6, if_neg k7] at hN
    cases hN
end
end Go.Proofs.YtaddhpeainliiaaGreatDoor.Id
/-! ## PrF -/
namespace Go.Proofs.YtaddhpeainliiaaGreatDoor.Id
open Go
set_option linter.unusedVariables false
set_option linter.unusedSimpArgs false
abbrev yExport : List UInt8 := [101, 120, 112, 111, 114, 116]
abbrev yFunc : List UInt8 := [102, 117, 110, 99]
abbrev yConst : List UInt8 := [99, 111, 110, 115, 116]
abbrev yInclude : List UInt8 := [105, 110, 99, 108, 117, 100, 101]
abbrev yAs : List UInt8 := [97, 115]
/-- a type's word -/
def yTyp (t : Int) : List UInt8 := if t = 1 then [105, 110, 116] else if t = 2 then [98, 111, 111, 108] else [116, 101, 120, 116]
theorem yTyp_w (t : Int) : Wordy (yTyp t) := by unfold yTyp; repeat' split
                                                all_goals decide
/-! ### rows of pieces at the line's begin -/
structure Pm where
  f : PSt → PSt
  s : Bool → List UInt8
  n : Int
def Pm.ok (x : Pm) : Prop := IsT 0 x.f x.s 0 x.n
def wIt : List (PSt → PSt) → PSt → PSt
  | [], p => p
  | f :: r, p => wIt r (f p)
def rIt : List (Bool → List UInt8) → Bool → List UInt8
  | [], _ => []
  | s :: r, t => s t ++ rIt r t
theorem it_ok : ∀ (l : List Pm), (∀ x ∈ l, x.ok) → ∀ (q : PSt), q.tabs = 0 → q.lv ≤ q.most → q.last = 0 →
    wIt (l.map Pm.f) q = { q with out := q.out ++ rIt (l.map Pm.s) q.tight, most := max q.most (q.lv + uSeq (l.map Pm.n)) }
  | [], _, q, ht, hq, hl => by
    have : max q.most q.lv = q.most := by omega
    simp [wIt, rIt, uSeq, this]
  | x :: r, hx, q, ht, hq, hl => by
    have hx0 : IsT 0 x.f x.s 0 x.n := hx x (by simp)
    rw [List.map_cons, wIt, hx0.2.2 q ht hq, it_ok r (fun y hy => hx y (by simp [hy])) _ (by exact ht) (eff_ok hq) rfl]
    unfold eff
    simp only [hl, sep0, PSt.mk.injEq, List.append_assoc, List.nil_append, true_and, List.map_cons, uSeq, rIt]
    omega
/-- functions: an empty line ahead of each but the first, or of all -/
def wFs : List (PSt → PSt) → Bool → PSt → PSt
  | [], _, p => p
  | f :: r, sep, p => wFs r true (f (if sep = true then pgap [10] p else p))
def rFs : List (Bool → List UInt8) → Bool → Bool → List UInt8
  | [], _, _ => []
  | s :: r, sep, t => (if sep = true then nl t else []) ++ (s t ++ rFs r true t)
theorem pgap_nl {q : PSt} (h : q.last = 0) : pgap [10] q = { q with out := q.out ++ nl q.tight } := by
  unfold pgap nl
  by_cases ht : q.tight = true
  · obtain ⟨o, t, l, i, v, m⟩ := q
    have ht : t = true := ht
    subst ht; simp
  · obtain ⟨o, t, l, i, v, m⟩ := q
    have ht : t = false := by simpa using ht
    have h : l = 0 := h
    subst ht h; simp
theorem fs_ok : ∀ (l : List Pm), (∀ x ∈ l, x.ok) → ∀ (sep : Bool) (q : PSt), q.tabs = 0 → q.lv ≤ q.most → q.last = 0 →
    wFs (l.map Pm.f) sep q = { q with out := q.out ++ rFs (l.map Pm.s) sep q.tight, most := max q.most (q.lv + uSeq (l.map Pm.n)) }
  | [], _, sep, q, ht, hq, hl => by
    have : max q.most q.lv = q.most := by omega
    simp [wFs, rFs, uSeq, this]
  | x :: r, hx, sep, q, ht, hq, hl => by
    have hx0 : IsT 0 x.f x.s 0 x.n := hx x (by simp)
    have e0 : (if sep = true then pgap [10] q else q) = { q with out := q.out ++ (if sep = true then nl q.tight else []) } := by
      cases sep with
      | true => exact pgap_nl hl
      | false => simp
    rw [List.map_cons, wFs, e0, hx0.2.2 _ (by exact ht) (by exact hq), fs_ok r (fun y hy => hx y (by simp [hy])) true _ (by exact ht) (eff_ok (by exact hq)) rfl]
    unfold eff
    simp only [hl, sep0, PSt.mk.injEq, List.append_assoc, List.nil_append, true_and, List.map_cons, uSeq, rFs]
    omega
section
variable (lit : TVal → List UInt8) (qt : ByteArray → List UInt8)
def wExp (b : Bool) (f : PSt → PSt) (p : PSt) : PSt := f (if b = true then pgap [32] (ptok yExport p) else p)
def rExp (b : Bool) (s : List UInt8) : List UInt8 := if b = true then yExport ++ (32 :: s) else s
def wPar (x : TParam) (p : PSt) : PSt := ptok (yTyp x.t) (pgap [32] (ptok [58] (ptok (L x.nm) p)))
def rPar (x : TParam) (t : Bool) : List UInt8 := L x.nm ++ (58 :: (gp t ++ yTyp x.t))
def wHead (f : TFunc) (p : PSt) : PSt := ptok [41] (wSeq (f.ps.map wPar) true (ptok [40] (ptok (L f.nm) (pgap [32] (ptok yFunc p)))))
def wRes (t : Int) (p : PSt) : PSt := if t = 0 then p else ptok (yTyp t) (pgap [32] (ptok [58] p))
def rRes (r : Int) (t : Bool) : List UInt8 := if r = 0 then [] else 58 :: (gp t ++ yTyp r)
def rHead (f : TFunc) (t : Bool) : List UInt8 := yFunc ++ (32 :: (L f.nm ++ (40 :: (rSeq (f.ps.map rPar) true t ++ [41]))))
def wF (f : TFunc) : PSt → PSt := wExp f.ex fun p => pgap [10] (wBlk (wSs lit f.body) (pgap [32] (wRes f.res (wHead f p))))
def rF (f : TFunc) (t : Bool) : List UInt8 := rExp f.ex (rHead f t ++ (rRes f.res t ++ (gp t ++ (rBlk (rSs lit f.body) t 0 ++ nl t))))
def wI (x : TIncl) (p : PSt) : PSt := pgap [10] (ptok [59] (ptok (L x.nm) (pgap [32] (ptok yAs (pgap [32] (ptok (qt x.p) (pgap [32] (ptok yInclude p))))))))
def rI (x : TIncl) (t : Bool) : List UInt8 := yInclude ++ (gp t ++ (qt x.p ++ (gp t ++ (yAs ++ (32 :: (L x.nm ++ (59 :: nl t)))))))
def wC (x : TCons) : PSt → PSt := wExp x.ex fun p => pgap [10] (ptok [59] (wE lit x.e (pgap [32] (ptok [61] (pgap [32] (ptok (L x.nm) (pgap [32] (ptok yConst p))))))))
def rC (x : TCons) (t : Bool) : List UInt8 := rExp x.ex (yConst ++ (32 :: (L x.nm ++ (gp t ++ (61 :: (gp t ++ (rE lit x.e t ++ (59 :: nl t))))))))
def wM (m : TMod) (p : PSt) : PSt :=
  let p := wIt (m.is.map (wI qt)) p
  let p := if 0 < m.is.length ∧ 0 < m.cs.length then pgap [10] p else p
  let p := wIt (m.cs.map (wC lit)) p
  wFs (m.fs.map (wF lit)) (decide (0 < m.is.length + m.cs.length)) p
def rM (m : TMod) (t : Bool) : List UInt8 :=
  rIt (m.is.map (rI qt)) t ++ ((if 0 < m.is.length ∧ 0 < m.cs.length then nl t else []) ++ (rIt (m.cs.map (rC lit)) t ++ rFs (m.fs.map (rF lit)) (decide (0 < m.is.length + m.cs.length)) t))
def upM (m : TMod) : Int := max (uSeq (m.cs.map fun c => upE c.e)) (uSeq (m.fs.map fun f => 1 + uSeq (upSs f.body)))
variable {lit} {qt}
theorem exp_is {b : Bool} {f : PSt → PSt} {s : Bool → List UInt8} {n : Int} (h : IsT 0 f s 0 n) (hw : ∀ t, hdW (s t) = true) : IsT 0 (wExp b f) (fun t => rExp b (s t)) 0 n := by
  have h0 := h.1
  cases b with
  | false => exact h
  | true =>
    refine ((tok_isT (i := 0) (s := yExport) (by simp) (by decide)).gap h).conv ?_ rfl (by omega)
    funext t
    rw [kgapW t (hw true) (by decide)]
    rfl
theorem par_is {x : TParam} (h : rightP x = true) : Is (wPar x) (rPar x) (lt (yTyp x.t)) 0 := by
  unfold rightP at h
  rw [Bool.and_eq_true] at h
  have hw := word_hd h.1
  have ht := yTyp_w x.t
  have h1 : sepL (lt (L x.nm)) [58] = [] := sepN (by decide)
  have h2 : sepL (lt [58]) (yTyp x.t) = [] := by rw [show lt [58] = 0 by decide]; exact sep0 _
  exact (((tok_is hw.ne hw.br).seq (tok_is (s := [58]) (by simp) (by decide)) (fun _ => h1)).gap (tok_is ht.ne ht.br) h2).conv (by funext t; show _ = L x.nm ++ (58 :: (gp t ++ yTyp x.t)); simp) rfl (by omega)
theorem uSeq_zero {α : Type} : ∀ l : List α, uSeq (l.map fun _ => (0 : Int)) = 0
  | [] => rfl
  | _ :: r => by rw [List.map_cons, uSeq, uSeq_zero r]; rfl
theorem head_is {f : TFunc} (h : isWord f.nm = true) (hp : f.ps.all rightP = true) : Is (wHead f) (rHead f) 0 1 := by
  have hw := word_hd h
  let a : List Pc := f.ps.map fun x => ⟨wPar x, rPar x, lt (yTyp x.t), 0⟩
  have ha : ∀ x ∈ a, x.ok := fun x hx => by
    obtain ⟨y, hy, rfl⟩ := List.mem_map.1 hx
    exact par_is (List.all_eq_true.1 hp y hy)
  have e1 : a.map Pc.f = f.ps.map wPar := by rw [List.map_map]; rfl
  have e2 : a.map Pc.s = f.ps.map rPar := by rw [List.map_map]; rfl
  have e3 : uSeq (a.map Pc.n) = 0 := by rw [List.map_map]; exact uSeq_zero f.ps
  have hn : Is (fun p => ptok (L f.nm) (pgap [32] (ptok yFunc p))) (fun _ => yFunc ++ (32 :: L f.nm)) (lt (L f.nm)) 0 := by
    refine ⟨Int.le_refl _, fun t => by simp, fun p hp => ?_⟩
    have := (tok_isT (i := p.tabs) (s := yFunc) (by simp) (by decide)).gap (tok_isT (i := p.tabs) hw.ne hw.br)
    refine (this.2.2 p rfl hp).trans ?_
    show eff (yFunc ++ (kgap (lt yFunc) (L f.nm) p.tight ++ L f.nm)) _ _ p = _
    rw [kgapW _ hw (by decide)]
    rfl
  have := call_is hn a ha
  rw [e1, e2, e3] at this
  exact this.conv (by funext t; show (yFunc ++ 32 :: L f.nm) ++ _ = yFunc ++ (32 :: (L f.nm ++ _)); simp) rfl (by omega)
theorem res_is {i : Int} {r : Int} {f : PSt → PSt} {s : Bool → List UInt8} (h : IsT i f s 0 1) : ∃ l, IsT i (fun p => wRes r (f p)) (fun t => s t ++ rRes r t) l 1 := by
  by_cases hr : r = 0
  · subst hr
    refine ⟨0, h.conv ?_ rfl rfl⟩
    funext t
    show s t = s t ++ []
    rw [List.append_nil]
  · have ht := yTyp_w r
    have h2 := (h.seq (tok_isT (s := [58]) (by simp) (by decide)) (fun _ => sep0 _)).gap (tok_isT (i := i) ht.ne ht.br)
    refine ⟨lt (yTyp r), ?_, fun t => by have := h.2.1 t; simp [this], fun p hp hlv => ?_⟩
    · omega
    · show wRes r (f p) = eff (s p.tight ++ rRes r p.tight) _ 1 p
      unfold wRes rRes
      rw [if_neg hr, if_neg hr]
      refine (h2.2.2 p hp hlv).trans ?_
      show eff (s p.tight ++ [58] ++ (kgap (lt [58]) (yTyp r) p.tight ++ yTyp r)) _ _ p = _
      rw [show lt [58] = 0 by decide, kgap0]
      simp
      rfl
theorem func_is (hl : LitFacts lit) {f : TFunc} (h : rightF f = true) : IsT 0 (wF lit f) (rF lit f) 0 (1 + uSeq (upSs f.body)) := by
  unfold rightF at h
  simp only [Bool.and_eq_true] at h
  obtain ⟨h1, _, _, h4, h5⟩ := h
  have hbok : ∀ x ∈ f.body.map (sc lit), x.ok := fun x hx => by
    obtain ⟨s, hs, rfl⟩ := List.mem_map.1 hx
    exact (stmt_is hl _ s (Nat.lt_succ_self _) (rightSs_mem h4 hs)).1
  have hu := uSeq_ge (upSs f.body)
  obtain ⟨l, hr⟩ := res_is (r := f.res) ((head_is h1 h5).toT 0)
  have hb := (blkT_is hr hbok (Int.le_refl _)).nl
  rw [sc_f, sc_s, sc_n] at hb
  refine (exp_is (b := f.ex) hb (fun t => by show hdW (((rHead f t ++ rRes f.res t) ++ _) ++ _) = true; unfold rHead; simp [hdW]; decide)).conv ?_ rfl (by omega)
  funext t
  unfold rF
  simp
/-- what is asked of a quoted text -/
def QtFacts (qt : ByteArray → List UInt8) : Prop := ∀ s : ByteArray, s.size ≤ 4096 → ∃ r, qt s = 34 :: r
theorem incl_is (hq : QtFacts qt) {x : TIncl} (h : rightI x = true) : IsT 0 (wI qt x) (rI qt x) 0 0 := by
  unfold rightI at h
  rw [Bool.and_eq_true, decide_eq_true_eq] at h
  have hw := word_hd h.2
  obtain ⟨r, e⟩ := hq x.p h.1
  have hd : hdW (qt x.p) = false := by rw [e]; show isW 34 = false; decide
  have hz : lt (qt x.p) = 0 := by rw [e]; show (match isW 34 with | true => (34 : UInt8) | false => 0) = 0; decide
  have hq2 : IsT 0 (ptok (qt x.p)) (fun _ => qt x.p) 0 0 := by
    have := tok_isT (i := 0) (s := qt x.p) (by rw [e]; simp) (by rw [e]; simp)
    rw [hz] at this; exact this
  have h1 := (semi_is ((((tok_isT (i := 0) (s := yInclude) (by simp) (by decide)).gap hq2).gap (tok_isT (s := yAs) (by simp) (by decide))).gap (tok_isT hw.ne hw.br))).nl
  refine h1.conv ?_ rfl (by omega)
  funext t
  unfold rI
  rw [kgapN t hd, kgap0, kgapW t hw (by decide)]
  simp
theorem cons_is (hl : LitFacts lit) {x : TCons} (h : rightC x = true) : IsT 0 (wC lit x) (rC lit x) 0 (upE x.e) := by
  unfold rightC at h
  rw [Bool.and_eq_true] at h
  have hw := word_hd h.1
  obtain ⟨l, hI⟩ := expr_is hl _ x.e (Nat.lt_succ_self _) h.2
  have h0 := hI.1
  have h1 := ((tok_isT (i := 0) (s := yConst) (by simp) (by decide)).gap (eq_is hw hI)).nl
  refine (exp_is (b := x.ex) h1 (fun t => by show hdW ((yConst ++ _) ++ _) = true; simp [hdW]; decide)).conv ?_ rfl (by omega)
  funext t
  unfold rC
  rw [kgapW t (by rw [hdW_app hw.ne]; exact hw) (by decide)]
  simp
/-- a module is written as the document writes it -/
theorem mod_is (hl : LitFacts lit) (hq : QtFacts qt) {m : TMod} (h : rightM m = true) (t : Bool) : wM lit qt m ⟨[], t, 0, 0, 0, 0⟩ = ⟨rM lit qt m t, t, 0, 0, 0, upM m⟩ := by
  unfold rightM at h
  simp only [Bool.and_eq_true, List.all_eq_true] at h
  obtain ⟨hi, hc, hf⟩ := h
  have i1 : ∀ x ∈ m.is.map (fun x => (⟨wI qt x, rI qt x, 0⟩ : Pm)), x.ok := fun x hx => by
    obtain ⟨y, hy, rfl⟩ := List.mem_map.1 hx
    exact incl_is hq (hi y hy)
  have c1 : ∀ x ∈ m.cs.map (fun x => (⟨wC lit x, rC lit x, upE x.e⟩ : Pm)), x.ok := fun x hx => by
    obtain ⟨y, hy, rfl⟩ := List.mem_map.1 hx
    exact cons_is hl (hc y hy)
  have f1 : ∀ x ∈ m.fs.map (fun x => (⟨wF lit x, rF lit x, 1 + uSeq (upSs x.body)⟩ : Pm)), x.ok := fun x hx => by
    obtain ⟨y, hy, rfl⟩ := List.mem_map.1 hx
    exact func_is hl (hf y hy)
  have i2 := it_ok _ i1 ⟨[], t, 0, 0, 0, 0⟩ rfl (Int.le_refl _) rfl
  simp only [List.map_map] at i2
  have e1 : Pm.f ∘ (fun x => (⟨wI qt x, rI qt x, 0⟩ : Pm)) = wI qt := rfl
  have e2 : Pm.s ∘ (fun x => (⟨wI qt x, rI qt x, 0⟩ : Pm)) = rI qt := rfl
  have e3 : uSeq (m.is.map (Pm.n ∘ (fun x => (⟨wI qt x, rI qt x, 0⟩ : Pm)))) = 0 := uSeq_zero m.is
  rw [e1, e2, e3] at i2
  unfold wM
  simp only []
  rw [i2]
  have g : (if 0 < m.is.length ∧ 0 < m.cs.length then pgap [10] (⟨[] ++ rIt (m.is.map (rI qt)) t, t, 0, 0, 0, max 0 (0 + 0)⟩ : PSt) else ⟨[] ++ rIt (m.is.map (rI qt)) t, t, 0, 0, 0, max 0 (0 + 0)⟩) = ⟨rIt (m.is.map (rI qt)) t ++ (if 0 < m.is.length ∧ 0 < m.cs.length then nl t else []), t, 0, 0, 0, 0⟩ := by
    split
    · rw [pgap_nl rfl]; simp
    · simp
  rw [g]
  have c2 := it_ok _ c1 ⟨rIt (m.is.map (rI qt)) t ++ (if 0 < m.is.length ∧ 0 < m.cs.length then nl t else []), t, 0, 0, 0, 0⟩ rfl (Int.le_refl _) rfl
  simp only [List.map_map] at c2
  have e4 : Pm.f ∘ (fun x => (⟨wC lit x, rC lit x, upE x.e⟩ : Pm)) = wC lit := rfl
  have e5 : Pm.s ∘ (fun x => (⟨wC lit x, rC lit x, upE x.e⟩ : Pm)) = rC lit := rfl
  have e6 : Pm.n ∘ (fun x => (⟨wC lit x, rC lit x, upE x.e⟩ : Pm)) = fun c => upE c.e := rfl
  rw [e4, e5, e6] at c2
  rw [c2]
  have f2 := fs_ok _ f1 (decide (0 < m.is.length + m.cs.length)) ⟨(rIt (m.is.map (rI qt)) t ++ (if 0 < m.is.length ∧ 0 < m.cs.length then nl t else [])) ++ rIt (m.cs.map (rC lit)) t, t, 0, 0, 0, max 0 (0 + uSeq (m.cs.map fun c => upE c.e))⟩ rfl (by show (0 : Int) ≤ max 0 _; omega) rfl
  simp only [List.map_map] at f2
  have e7 : Pm.f ∘ (fun x => (⟨wF lit x, rF lit x, 1 + uSeq (upSs x.body)⟩ : Pm)) = wF lit := rfl
  have e8 : Pm.s ∘ (fun x => (⟨wF lit x, rF lit x, 1 + uSeq (upSs x.body)⟩ : Pm)) = rF lit := rfl
  have e9 : Pm.n ∘ (fun x => (⟨wF lit x, rF lit x, 1 + uSeq (upSs x.body)⟩ : Pm)) = fun f => 1 + uSeq (upSs f.body) := rfl
  rw [e7, e8, e9] at f2
  rw [f2]
  have u1 := uSeq_ge (m.cs.map fun c => upE c.e)
  have u2 := uSeq_ge (m.fs.map fun f => 1 + uSeq (upSs f.body))
  unfold rM upM
  simp only [PSt.mk.injEq, List.append_assoc, true_and, and_true]
  omega
end
end Go.Proofs.YtaddhpeainliiaaGreatDoor.Id
/-! ## PrG -/
namespace Go.Proofs.YtaddhpeainliiaaGreatDoor.Id
open Go
set_option linter.unusedVariables false
set_option linter.unusedSimpArgs false
/-- no less is written, no fewer levels were open -/
def Le (p q : PSt) : Prop := p.out.length ≤ q.out.length ∧ p.most ≤ q.most
theorem Le.rfl {p : PSt} : Le p p := ⟨Nat.le_refl _, Int.le_refl _⟩
theorem Le.trans {p q r : PSt} (h : Le p q) (k : Le q r) : Le p r := ⟨Nat.le_trans h.1 k.1, Int.le_trans h.2 k.2⟩
def Gw (f : PSt → PSt) : Prop := ∀ p, Le p (f p)
theorem Le.to {p q : PSt} {f : PSt → PSt} (h : Gw f) (k : Le p q) : Le p (f q) := k.trans (h q)
theorem gw_put (s : List UInt8) : Gw (pput s) := fun p => ⟨by simp [pput], Int.le_refl _⟩
theorem gw_tok (s : List UInt8) : Gw (ptok s) := fun p => by
  have h := gw_put s p
  unfold ptok
  split
  · exact ⟨h.1, by show p.most ≤ max p.most _; omega⟩
  · split
    · exact h
    · exact h
theorem gw_gap (s : List UInt8) : Gw (pgap s) := fun p => by
  unfold pgap
  split
  · exact Le.rfl
  · exact ⟨by simp, Int.le_refl _⟩
theorem gw_line : Gw pline := fun p => gw_gap _ p
theorem gw_in {f : PSt → PSt} (h : Gw f) (b : Bool) : Gw (wIn b f) := fun p => by
  unfold wIn
  split
  · exact ((gw_tok _ p).to h).to (gw_tok _)
  · exact h p
theorem gw_name (of nm : List UInt8) : Gw (wName of nm) := fun p => by
  unfold wName
  split
  · exact gw_tok _ p
  · exact ((gw_tok _ p).to (gw_tok _)).to (gw_tok _)
theorem gw_seq : ∀ (l : List (PSt → PSt)), (∀ f ∈ l, Gw f) → ∀ b, Gw (wSeq l b)
  | [], _, b => fun p => Le.rfl
  | f :: r, h, b => fun p => by
    rw [wSeq]
    refine Le.to (gw_seq r (fun g hg => h g (by simp [hg])) false) ((Le.to (h f (by simp)) ?_))
    split
    · exact Le.rfl
    · exact (gw_tok _ p).to (gw_gap _)
section
variable {lit : TVal → List UInt8}
theorem gw_node (k : Int) (of nm : List UInt8) (v : TVal) (op : Int) (kb : List (Int × Int)) (fs : List (PSt → PSt)) (h : ∀ f ∈ fs, Gw f) : Gw (wNode lit k of nm v op kb fs) := fun p => by
  unfold wNode
  split
  · exact gw_tok _ p
  split
  · exact gw_name _ _ p
  split
  · exact (((gw_name _ _ p).to (gw_tok _)).to (gw_seq _ h _)).to (gw_tok _)
  split
  · split
    · rename_i x f
      have h1 : Gw (wIn (decide (x.1 = 5)) f) := gw_in (h f (by simp)) _
      have h2 : Le p (popen (ptok (sgnT op) p)) := by
        have := gw_tok (sgnT op) p
        exact ⟨this.1, by show p.most ≤ max _ _; have := this.2; omega⟩
      exact (show Le p _ from ⟨(h2.to h1).1, (h2.to h1).2⟩)
    · exact Le.rfl
  split
  · split
    · rename_i x y f g
      exact ((((gw_in (h f (by simp)) _ p).to (gw_gap _)).to (gw_tok _)).to (gw_gap _)).to (gw_in (h g (by simp)) _)
    · exact Le.rfl
  · exact Le.rfl
theorem wEs_map : ∀ l : List TExpr, wEs lit l = l.map (wE lit)
  | [] => by rw [wEs]; rfl
  | x :: r => by rw [wEs, wEs_map r]; rfl
theorem gw_expr : ∀ (n : Nat) (e : TExpr), SizeOf.sizeOf e < n → Gw (wE lit e)
  | 0, _, h => absurd h (by omega)
  | n + 1, .mk k a of nm v op kids, hn => by
    rw [wE, wEs_map]
    refine gw_node _ _ _ _ _ _ _ fun f hf => ?_
    obtain ⟨x, hx, rfl⟩ := List.mem_map.1 hf
    exact gw_expr n x (by have := List.sizeOf_lt_of_mem hx; simp at hn; omega)
theorem gw_e (e : TExpr) : Gw (wE lit e) := gw_expr _ e (Nat.lt_succ_self _)
theorem gw_lines : ∀ (l : List (PSt → PSt)), (∀ f ∈ l, Gw f) → Gw (wLines l)
  | [], _ => fun p => Le.rfl
  | f :: r, h => fun p => by
    rw [wLines]
    exact ((gw_line p).to (h f (by simp))).to (gw_lines r fun g hg => h g (by simp [hg]))
theorem gw_blk (l : List (PSt → PSt)) (h : ∀ f ∈ l, Gw f) : Gw (wBlk l) := fun p => by
  unfold wBlk
  simp only []
  have h1 := gw_tok [123] p
  have h2 := gw_lines l h { ptok [123] p with tabs := (ptok [123] p).tabs + 1 }
  have h3 : Le p (wLines l { ptok [123] p with tabs := (ptok [123] p).tabs + 1 }) := ⟨Nat.le_trans h1.1 h2.1, Int.le_trans h1.2 h2.2⟩
  have h4 := gw_line { wLines l { ptok [123] p with tabs := (ptok [123] p).tabs + 1 } with tabs := (wLines l { ptok [123] p with tabs := (ptok [123] p).tabs + 1 }).tabs - 1 }
  have h5 : Le p (pline { wLines l { ptok [123] p with tabs := (ptok [123] p).tabs + 1 } with tabs := (wLines l { ptok [123] p with tabs := (ptok [123] p).tabs + 1 }).tabs - 1 }) := ⟨Nat.le_trans h3.1 h4.1, Int.le_trans h3.2 h4.2⟩
  exact h5.to (gw_tok _)
theorem gw_sn (k : Int) (nm : List UInt8) (ne : Bool) {fe : PSt → PSt} (he : Gw fe) (bs : List (PSt → PSt)) (hb : ∀ f ∈ bs, Gw f) (ch : Bool) (es : List (PSt → PSt)) (hes : ∀ f ∈ es, Gw f) (hl : Bool) : Gw (wSN k nm ne fe bs ch es hl) := fun p => by
  unfold wSN
  have hB := gw_blk bs hb
  have hE := gw_blk es hes
  split
  · exact ((((((((gw_tok _ p).to (gw_gap _)).to (gw_tok _)).to (gw_gap _)).to (gw_tok _)).to (gw_gap _)).to he).to (gw_tok _))
  split
  · exact ((((((gw_tok _ p).to (gw_gap _)).to (gw_tok _)).to (gw_gap _)).to he).to (gw_tok _))
  split
  · simp only []
    have hq : Le p (wBlk bs (pgap [32] (fe (pgap [32] (ptok yIf p))))) := ((((gw_tok _ p).to (gw_gap _)).to he).to (gw_gap _)).to hB
    split
    · have hr := ((hq.to (gw_gap [32])).to (gw_tok yElse)).to (gw_gap [32])
      split
      · split
        · exact hr.to (hes _ (by simp))
        · exact hr
      · exact hr.to hE
    · exact hq
  split
  · exact ((((gw_tok _ p).to (gw_gap _)).to he).to (gw_gap _)).to hB
  split
  · refine Le.to (gw_tok _) ?_
    split
    · exact gw_tok _ p
    · exact ((gw_tok _ p).to (gw_gap _)).to he
  split
  · exact (((gw_tok _ p).to (gw_gap _)).to he).to (gw_tok _)
  split
  · exact (he p).to (gw_tok _)
  · exact gw_tok _ p
theorem gw_stmt : ∀ (n : Nat) (s : TStmt), SizeOf.sizeOf s < n → Gw (wS lit s)
  | 0, _, h => absurd h (by omega)
  | n + 1, .mk k a nm e body els he, hn => by
    simp only [TStmt.mk.sizeOf_spec] at hn
    rw [wS, wSs_map, wSs_map]
    refine gw_sn _ _ _ (gw_e e) _ (fun f hf => ?_) _ _ (fun f hf => ?_) _
    · obtain ⟨x, hx, rfl⟩ := List.mem_map.1 hf
      exact gw_stmt n x (by have := List.sizeOf_lt_of_mem hx; omega)
    · obtain ⟨x, hx, rfl⟩ := List.mem_map.1 hf
      exact gw_stmt n x (by have := List.sizeOf_lt_of_mem hx; omega)
theorem gw_s (s : TStmt) : Gw (wS lit s) := gw_stmt _ s (Nat.lt_succ_self _)
/-- what the machine holds: so much text, so many levels -/
def Bd (p : PSt) : Prop := p.out.length ≤ 140737488355328 ∧ p.most ≤ 1152921504606846976
theorem Bd.of {p q : PSt} (h : Bd q) (k : Le p q) : Bd p := ⟨Nat.le_trans k.1 h.1, Int.le_trans k.2 h.2⟩
/-- levels and tabulators are as they should be -/
structure Pg (p : PSt) : Prop where
  lv : 0 ≤ p.lv
  most : p.lv ≤ p.most
  tabs : 0 ≤ p.tabs
theorem Pg.gap {p : PSt} (h : Pg p) (s : List UInt8) : Pg (pgap s p) := by
  unfold pgap
  split
  · exact h
  · exact ⟨h.lv, h.most, h.tabs⟩
theorem Pg.tok {p : PSt} (h : Pg p) {s : List UInt8} (h1 : s ≠ [123]) (h2 : s ≠ [40]) (h3 : s ≠ [125]) (h4 : s ≠ [41]) : Pg (ptok s p) := by
  unfold ptok
  rw [if_neg (fun h => h.elim h1 h2), if_neg (fun h => h.elim h3 h4)]
  exact ⟨h.lv, h.most, h.tabs⟩
theorem Pg.eff {p : PSt} (h : Pg p) (s : List UInt8) (l : UInt8) (n : Int) : Pg (Id.eff s l n p) := ⟨h.lv, by show p.lv ≤ max p.most _; have := h.most; omega, h.tabs⟩
theorem Pg.is {p : PSt} (h : Pg p) {f : PSt → PSt} {s : Bool → List UInt8} {l : UInt8} {n : Int} (k : Is f s l n) : Pg (f p) := by rw [k.2.2 p h.most]; exact h.eff _ _ _
theorem Pg.isT {p : PSt} (h : Pg p) {i : Int} {f : PSt → PSt} {s : Bool → List UInt8} {l : UInt8} {n : Int} (k : IsT i f s l n) (hi : p.tabs = i) : Pg (f p) := by rw [k.2.2 p hi h.most]; exact h.eff _ _ _
end
end Go.Proofs.YtaddhpeainliiaaGreatDoor.Id
/-! ## InvI -/
namespace Go.Proofs.YtaddhpeainliiaaGreatDoor.P
open Go.RowKit
structure Inv (w : World) : Prop where
  pow : Lib.TabIs Tryz.prog w "internal/strconv.uint64pow10" .u64 Lib.pow10Tab
  rng : ∃ ev, w.cell? ⟨5, 0, none⟩ = some ev ∧ (ev = .nilIface ∨ ∃ te pe, ev = .iface te pe)
theorem gPow : Tryz.prog.globalNamed "internal/strconv.uint64pow10" = some 0 := by kernel_rfl
theorem Inv.below {w w' : World} (h : Inv w) (hb : Below w.heap.size w w') : Inv w' := by
  constructor
  · have h1 := h.pow
    unfold Lib.TabIs World.var? at h1 ⊢
    rw [gPow] at h1 ⊢
    simp only [Option.bind_some] at h1 ⊢
    cases hc : w.heap[0]? with
    | none => rw [hc] at h1; cases h1
    | some o =>
      have hlt : 0 < w.heap.size := by
        rcases Nat.lt_or_ge 0 w.heap.size with h2 | h2
        · exact h2
        · rw [Array.getElem?_eq_none h2] at hc; cases hc
      rw [hb.block _ hlt, hc]
      rw [hc] at h1
      exact h1
  · obtain ⟨ev, h1, h2⟩ := h.rng
    refine ⟨ev, ?_, h2⟩
    have hlt := World.block_lt_of_cell? w _ h1
    rw [hb.cell hlt]; exact h1
end Go.Proofs.YtaddhpeainliiaaGreatDoor.P
/-! ## DenQte -/
namespace Go.Proofs.YtaddhpeainliiaaGreatDoor.Id
open Go
set_option linter.unusedVariables false
set_option linter.unusedSimpArgs false
variable {X : Given}
def hx (n : Nat) : UInt8 := UInt8.ofNat (if n < 10 then 48 + n else 87 + n)
abbrev hexB : ByteArray := ⟨#[48, 49, 50, 51, 52, 53, 54, 55, 56, 57, 97, 98, 99, 100, 101, 102]⟩
/-- a byte as it stands in a text -/
def enc (c : UInt8) : List UInt8 :=
  if c.toNat = 10 then [92, 110] else if c.toNat = 9 then [92, 116] else if c.toNat = 34 ∨ c.toNat = 92 then [92, c]
  else if c.toNat < 32 ∨ 126 < c.toNat then [92, 120, hx (c.toNat / 16), hx (c.toNat % 16)] else [c]
theorem enc_len (c : UInt8) : 1 ≤ (enc c).length ∧ (enc c).length ≤ 4 := by
  unfold enc; split
  · decide
  · split
    · decide
    · split
      · simp
      · split <;> simp
/-- a text, quoted -/
def qtP (s : ByteArray) : List UInt8 := 34 :: ((L s).flatMap enc ++ [34])
theorem hex_hi (c : UInt8) : (0 ≤ (c.toNat : Int).fdiv (2 ^ (min (Int.toNat 4) IntKind.u8.bits)) ∧ (c.toNat : Int).fdiv (2 ^ (min (Int.toNat 4) IntKind.u8.bits)) < hexB.size) ∧ bt hexB ((c.toNat : Int).fdiv (2 ^ (min (Int.toNat 4) IntKind.u8.bits))) = ((hx (c.toNat / 16)).toNat : Int) := by
  simpa using byte_all (p := fun c => decide ((0 ≤ (c.toNat : Int).fdiv (2 ^ (min (Int.toNat 4) IntKind.u8.bits)) ∧ (c.toNat : Int).fdiv (2 ^ (min (Int.toNat 4) IntKind.u8.bits)) < hexB.size) ∧ bt hexB ((c.toNat : Int).fdiv (2 ^ (min (Int.toNat 4) IntKind.u8.bits))) = ((hx (c.toNat / 16)).toNat : Int))) (by decide +kernel) c
theorem hex_lo (c : UInt8) : (0 ≤ IntKind.u8.wrap ((BitVec.ofInt IntKind.u8.bits (c.toNat : Int) &&& BitVec.ofInt IntKind.u8.bits 15).toNat : Int) ∧ IntKind.u8.wrap ((BitVec.ofInt IntKind.u8.bits (c.toNat : Int) &&& BitVec.ofInt IntKind.u8.bits 15).toNat : Int) < hexB.size) ∧ bt hexB (IntKind.u8.wrap ((BitVec.ofInt IntKind.u8.bits (c.toNat : Int) &&& BitVec.ofInt IntKind.u8.bits 15).toNat : Int)) = ((hx (c.toNat % 16)).toNat : Int) := by
  simpa using byte_all (p := fun c => decide ((0 ≤ IntKind.u8.wrap ((BitVec.ofInt IntKind.u8.bits (c.toNat : Int) &&& BitVec.ofInt IntKind.u8.bits 15).toNat : Int) ∧ IntKind.u8.wrap ((BitVec.ofInt IntKind.u8.bits (c.toNat : Int) &&& BitVec.ofInt IntKind.u8.bits 15).toNat : Int) < hexB.size) ∧ bt hexB (IntKind.u8.wrap ((BitVec.ofInt IntKind.u8.bits (c.toNat : Int) &&& BitVec.ofInt IntKind.u8.bits 15).toNat : Int)) = ((hx (c.toNat % 16)).toNat : Int))) (by decide +kernel) c
theorem fits {A : List UInt8} {i n : Nat} (hA : A.length ≤ 1 + 4 * i) (hi : i ≤ 4096) (hn : n ≤ 4) : ((A.map byteD).length + n) * 1 ≤ 140737488355328 := by rw [List.length_map]; omega
theorem qte_snoc {A : List UInt8} {i : Nat} {c : UInt8} (hA : A.length ≤ 1 + 4 * i) : (A ++ enc c).length ≤ 1 + 4 * (i + 1) := by
  have := (enc_len c).2
  rw [List.length_append]; omega
set_option maxHeartbeats 4000000 in
theorem lqte_loop (s : ByteArray) (hs : s.size ≤ 4096) (K : Ex → St → T Out) (Q : Out → Prop)
    (hE : WP X (K (.exit 0) ⟨[(4, .own (10, here) 1 ((34 :: (L s).flatMap enc).map byteD))], []⟩) Q) :
    ∀ (r : List UInt8) (i : Nat) (A : List UInt8), (L s).drop i = r → A ++ r.flatMap enc = 34 :: (L s).flatMap enc → A.length ≤ 1 + 4 * i → i ≤ s.size → ∀ σ : St, getT σ.t 0 = vS s → getT σ.t 12 = vI s.size → getT σ.t 13 = vI i → WkV σ (.own (10, here) 1 (A.map byteD)) (getT σ.t 4) →
      WP X (.loop (lp Tryz.f84 0) σ K) Q
  | r, i, A, h, hA, hl, hi, σ, g0, g12, g13, g4 => by
    refine WP.round ⟨[(0, vS s), (4, .own (10, here) 1 (A.map byteD)), (12, vI s.size), (13, vI i)], []⟩ ⟨⟨.inl g0.symm, g4, .inl g12.symm, .inl g13.symm, trivial⟩, trivial⟩ ?_
    cases r with
    | nil =>
      have h1 := drop_none h; rw [L_length] at h1
      refine WP.iteF (decide_eq_false (by omega)) ?_
      refine WP.leaf ⟨⟨[(4, .own (10, here) 1 (A.map byteD))], []⟩, ⟨⟨.inl rfl, trivial⟩, trivial⟩, ?_⟩
      simp only [List.flatMap_nil, List.append_nil] at hA
      rw [hA]; exact hE
    | cons c r =>
      obtain ⟨hb, hi'⟩ := bt_drop h
      have hnext : ∀ (ys : List (List D)) (σ : St), ys = (enc c).map byteD → getT σ.t 0 = vS s → getT σ.t 12 = vI s.size → getT σ.t 13 = vI (IntKind.i64.wrap ((i : Int) + 1)) → getT σ.t 4 = .own (10, here) 1 (A.map byteD ++ ys) → WP X (.loop (lp Tryz.f84 0) σ K) Q := fun ys σ hy g0 g12 g13 g4 => by
        refine lqte_loop s hs K Q hE r (i + 1) (A ++ enc c) (drop_some h).2.2 (by rw [← hA]; simp) (qte_snoc hl) (by omega) σ g0 g12 ?_ (.inl ?_)
        · rw [g13, wrapI (by omega) (by omega)]; rfl
        · rw [g4, hy, List.map_append]
      refine WP.iteT (decide_eq_true (by omega)) ?_
      refine WP.asrt (by omega) ?_
      have hx1 := hex_hi c
      have hx2 := hex_lo c
      rw [← hb] at hx1 hx2
      by_cases h1 : c.toNat = 10
      · refine WP.iteT (decide_eq_true (by omega)) ?_
        refine WP.asrt (fits hl (by omega) (Nat.le_of_ble_eq_true rfl)) ?_
        exact WP.leaf (hnext _ _ (by unfold enc; rw [if_pos h1]; rfl) rfl rfl rfl rfl)
      refine WP.iteF (decide_eq_false (by omega)) ?_
      by_cases h2 : c.toNat = 9
      · refine WP.iteT (decide_eq_true (by omega)) ?_
        refine WP.asrt (fits hl (by omega) (Nat.le_of_ble_eq_true rfl)) ?_
        exact WP.leaf (hnext _ _ (by unfold enc; rw [if_neg h1, if_pos h2]; rfl) rfl rfl rfl rfl)
      refine WP.iteF (decide_eq_false (by omega)) ?_
      by_cases h3 : c.toNat = 34
      · refine WP.iteT (decide_eq_true (by omega)) ?_
        refine WP.asrt (fits hl (by omega) (Nat.le_of_ble_eq_true rfl)) ?_
        exact WP.leaf (hnext _ _ (by unfold enc; rw [if_neg h1, if_neg h2, if_pos (.inl h3), hb]; rfl) rfl rfl rfl rfl)
      refine WP.iteF (decide_eq_false (by omega)) ?_
      by_cases h4 : c.toNat = 92
      · refine WP.iteT (decide_eq_true (by omega)) ?_
        refine WP.asrt (fits hl (by omega) (Nat.le_of_ble_eq_true rfl)) ?_
        exact WP.leaf (hnext _ _ (by unfold enc; rw [if_neg h1, if_neg h2, if_pos (.inr h4), hb]; rfl) rfl rfl rfl rfl)
      refine WP.iteF (decide_eq_false (by omega)) ?_
      have hno : ¬ (c.toNat = 34 ∨ c.toNat = 92) := by omega
      by_cases h5 : c.toNat < 32
      · refine WP.iteT (decide_eq_true (by omega)) ?_
        refine WP.asrt (by kernel_rfl) ?_
        refine WP.asrt (by decide) ?_
        refine WP.asrt hx1.1 ?_
        refine WP.asrt hx2.1 ?_
        refine WP.asrt (fits hl (by omega) (Nat.le_of_ble_eq_true rfl)) ?_
        refine WP.asrt (by kernel_rfl) ?_
        exact WP.leaf (hnext _ _ (by unfold enc; rw [if_neg h1, if_neg h2, if_neg hno, if_pos (.inl h5), hx1.2, hx2.2]; rfl) rfl rfl rfl rfl)
      refine WP.iteF (decide_eq_false (by omega)) ?_
      by_cases h6 : 126 < c.toNat
      · refine WP.iteT (decide_eq_true (by omega)) ?_
        refine WP.asrt (by kernel_rfl) ?_
        refine WP.asrt (by decide) ?_
        refine WP.asrt hx1.1 ?_
        refine WP.asrt hx2.1 ?_
        refine WP.asrt (fits hl (by omega) (Nat.le_of_ble_eq_true rfl)) ?_
        refine WP.asrt (by kernel_rfl) ?_
        exact WP.leaf (hnext _ _ (by unfold enc; rw [if_neg h1, if_neg h2, if_neg hno, if_pos (.inr h6), hx1.2, hx2.2]; rfl) rfl rfl rfl rfl)
      refine WP.iteF (decide_eq_false (by omega)) ?_
      refine WP.asrt (fits hl (by omega) (Nat.le_of_ble_eq_true rfl)) ?_
      exact WP.leaf (hnext _ _ (by unfold enc; rw [if_neg h1, if_neg h2, if_neg hno, if_neg (by omega), hb]; rfl) rfl rfl rfl rfl)
theorem enc_flat : ∀ l : List UInt8, (l.flatMap enc).length ≤ 4 * l.length
  | [] => by simp
  | c :: r => by
    have h1 := enc_flat r
    have h2 := (enc_len c).2
    rw [List.flatMap_cons, List.length_append, List.length_cons]; omega
theorem lquote (s : ByteArray) (hs : s.size ≤ 4096) : Does X 84 [vS s] [] (.ret (.tuple [vS (mkB (qtP s)), vI 0]) []) := by
  have hf := enc_flat (L s)
  have hz := L_length s
  refine DoesQ.eq (DoesQ.of Tryz.func84 (by kernel_rfl) ?_)
  refine WP.iteF (decide_eq_false (by omega)) ?_
  refine lqte_loop s hs _ _ ?_ (L s) 0 [34] rfl (by simp) (by simp) (by omega) _ rfl rfl rfl (.inl rfl)
  refine WP.asrt (show (((34 :: (L s).flatMap enc).map byteD).length + 1) * 1 ≤ 140737488355328 by rw [List.length_map, List.length_cons]; omega) ?_
  refine WP.bytes (34 :: (L s).flatMap enc ++ [34]) (by rw [List.map_append]; rfl) ?_
  exact WP.leaf rfl
set_option maxHeartbeats 4000000 in
theorem rqte_loop (s : ByteArray) (hs : s.size ≤ 4096) (K : Ex → St → T Out) (Q : Out → Prop)
    (hE : WP X (K (.exit 0) ⟨[(5, .own (11, here) 1 ((34 :: (L s).flatMap enc).map byteD))], []⟩) Q) :
    ∀ (r : List UInt8) (i : Nat) (A : List UInt8), (L s).drop i = r → A ++ r.flatMap enc = 34 :: (L s).flatMap enc → A.length ≤ 1 + 4 * i → i ≤ s.size → ∀ σ : St, getT σ.t 0 = vS s → getT σ.t 4 = vS hexB → getT σ.t 6 = vI i → WkV σ (.own (11, here) 1 (A.map byteD)) (getT σ.t 5) →
      WP X (.loop (lp Tryz.f85 0) σ K) Q
  | r, i, A, h, hA, hl, hi, σ, g0, g4, g6, g5 => by
    refine WP.round ⟨[(0, vS s), (5, .own (11, here) 1 (A.map byteD)), (4, vS hexB), (6, vI i)], []⟩ ⟨⟨.inl g0.symm, g5, .inl g4.symm, .inl g6.symm, trivial⟩, trivial⟩ ?_
    cases r with
    | nil =>
      have h1 := drop_none h; rw [L_length] at h1
      refine WP.iteF (decide_eq_false (by omega)) ?_
      refine WP.leaf ⟨⟨[(5, .own (11, here) 1 (A.map byteD))], []⟩, ⟨⟨.inl rfl, trivial⟩, trivial⟩, ?_⟩
      simp only [List.flatMap_nil, List.append_nil] at hA
      rw [hA]; exact hE
    | cons c r =>
      obtain ⟨hb, hi'⟩ := bt_drop h
      have hnext : ∀ (ys : List (List D)) (σ : St), ys = (enc c).map byteD → getT σ.t 0 = vS s → getT σ.t 4 = vS hexB → getT σ.t 6 = vI (IntKind.i64.wrap ((i : Int) + 1)) → getT σ.t 5 = .own (11, here) 1 (A.map byteD ++ ys) → WP X (.loop (lp Tryz.f85 0) σ K) Q := fun ys σ hy g0 g4 g6 g5 => by
        refine rqte_loop s hs K Q hE r (i + 1) (A ++ enc c) (drop_some h).2.2 (by rw [← hA]; simp) (qte_snoc hl) (by omega) σ g0 g4 ?_ (.inl ?_)
        · rw [g6, wrapI (by omega) (by omega)]; rfl
        · rw [g5, hy, List.map_append]
      refine WP.iteT (decide_eq_true (by omega)) ?_
      refine WP.asrt (by omega) ?_
      have hx1 := hex_hi c
      have hx2 := hex_lo c
      rw [← hb] at hx1 hx2
      by_cases h1 : c.toNat = 10
      · refine WP.iteT (decide_eq_true (by omega)) ?_
        refine WP.asrt (fits hl (by omega) (Nat.le_of_ble_eq_true rfl)) ?_
        exact WP.leaf (hnext _ _ (by unfold enc; rw [if_pos h1]; rfl) rfl rfl rfl rfl)
      refine WP.iteF (decide_eq_false (by omega)) ?_
      by_cases h2 : c.toNat = 9
      · refine WP.iteT (decide_eq_true (by omega)) ?_
        refine WP.asrt (fits hl (by omega) (Nat.le_of_ble_eq_true rfl)) ?_
        exact WP.leaf (hnext _ _ (by unfold enc; rw [if_neg h1, if_pos h2]; rfl) rfl rfl rfl rfl)
      refine WP.iteF (decide_eq_false (by omega)) ?_
      by_cases h3 : c.toNat = 34
      · refine WP.iteT (decide_eq_true (by omega)) ?_
        refine WP.asrt (fits hl (by omega) (Nat.le_of_ble_eq_true rfl)) ?_
        exact WP.leaf (hnext _ _ (by unfold enc; rw [if_neg h1, if_neg h2, if_pos (.inl h3), hb]; rfl) rfl rfl rfl rfl)
      refine WP.iteF (decide_eq_false (by omega)) ?_
      by_cases h4 : c.toNat = 92
      · refine WP.iteT (decide_eq_true (by omega)) ?_
        refine WP.asrt (fits hl (by omega) (Nat.le_of_ble_eq_true rfl)) ?_
        exact WP.leaf (hnext _ _ (by unfold enc; rw [if_neg h1, if_neg h2, if_pos (.inr h4), hb]; rfl) rfl rfl rfl rfl)
      refine WP.iteF (decide_eq_false (by omega)) ?_
      have hno : ¬ (c.toNat = 34 ∨ c.toNat = 92) := by omega
      by_cases h5 : c.toNat < 32
      · refine WP.iteF (decide_eq_false (by omega)) ?_
        refine WP.asrt (by kernel_rfl) ?_
        refine WP.asrt (by decide) ?_
        refine WP.asrt hx1.1 ?_
        refine WP.asrt hx2.1 ?_
        refine WP.asrt (fits hl (by omega) (Nat.le_of_ble_eq_true rfl)) ?_
        refine WP.asrt (by kernel_rfl) ?_
        exact WP.leaf (hnext _ _ (by unfold enc; rw [if_neg h1, if_neg h2, if_neg hno, if_pos (.inl h5), hx1.2, hx2.2]; rfl) rfl rfl rfl rfl)
      refine WP.iteT (decide_eq_true (by omega)) ?_
      by_cases h6 : 126 < c.toNat
      · refine WP.iteF (decide_eq_false (by omega)) ?_
        refine WP.asrt (by kernel_rfl) ?_
        refine WP.asrt (by decide) ?_
        refine WP.asrt hx1.1 ?_
        refine WP.asrt hx2.1 ?_
        refine WP.asrt (fits hl (by omega) (Nat.le_of_ble_eq_true rfl)) ?_
        refine WP.asrt (by kernel_rfl) ?_
        exact WP.leaf (hnext _ _ (by unfold enc; rw [if_neg h1, if_neg h2, if_neg hno, if_pos (.inr h6), hx1.2, hx2.2]; rfl) rfl rfl rfl rfl)
      refine WP.iteT (decide_eq_true (by omega)) ?_
      refine WP.asrt (fits hl (by omega) (Nat.le_of_ble_eq_true rfl)) ?_
      exact WP.leaf (hnext _ _ (by unfold enc; rw [if_neg h1, if_neg h2, if_neg hno, if_neg (by omega), hb]; rfl) rfl rfl rfl rfl)
theorem rquote (s : ByteArray) (hs : s.size ≤ 4096) : Does X 85 [vS s] [] (.ret (.tuple [vS (mkB (qtP s)), vI 0]) []) := by
  have hf := enc_flat (L s)
  have hz := L_length s
  refine DoesQ.eq (DoesQ.of Tryz.func85 (by kernel_rfl) ?_)
  refine WP.iteF (decide_eq_false (by omega)) ?_
  refine rqte_loop s hs _ _ ?_ (L s) 0 [34] rfl (by simp) (by simp) (by omega) _ rfl rfl rfl (.inl rfl)
  refine WP.asrt (show (((34 :: (L s).flatMap enc).map byteD).length + 1) * 1 ≤ 140737488355328 by rw [List.length_map, List.length_cons]; omega) ?_
  refine WP.bytes (34 :: (L s).flatMap enc ++ [34]) (by rw [List.map_append]; rfl) ?_
  exact WP.leaf rfl
end Go.Proofs.YtaddhpeainliiaaGreatDoor.Id
/-! ## PrSz -/
namespace Go.Proofs.YtaddhpeainliiaaGreatDoor.Id
open Go
set_option linter.unusedVariables false
set_option linter.unusedSimpArgs false
mutual
def szE : TExpr → Nat
  | .mk k a of nm v op kids => 1 + of.size + nm.size + v.s.size + szEs kids
def szEs : List TExpr → Nat
  | [] => 0
  | x :: r => szE x + szEs r
end
mutual
def szS : TStmt → Nat
  | .mk k a nm e body els he => 1 + nm.size + szE e + szSs body + szSs els
def szSs : List TStmt → Nat
  | [] => 0
  | x :: r => szS x + szSs r
end
def sumN : List Nat → Nat
  | [] => 0
  | x :: r => x + sumN r
def szF (f : TFunc) : Nat := 1 + f.nm.size + sumN (f.ps.map fun x => 1 + x.nm.size) + szSs f.body
def szC (c : TCons) : Nat := 1 + c.nm.size + szE c.e
def szI (i : TIncl) : Nat := 1 + i.nm.size + i.p.size
def szM (m : TMod) : Nat := 1 + sumN (m.is.map szI) + sumN (m.cs.map szC) + sumN (m.fs.map szF)
theorem szE_pos (e : TExpr) : 1 ≤ szE e := by obtain ⟨k, a, of, nm, v, op, kids⟩ := e; rw [szE]; omega
theorem szEs_map : ∀ l : List TExpr, szEs l = sumN (l.map szE)
  | [] => by rw [szEs]; rfl
  | x :: r => by rw [szEs, szEs_map r]; rfl
theorem szSs_map : ∀ l : List TStmt, szSs l = sumN (l.map szS)
  | [] => by rw [szSs]; rfl
  | x :: r => by rw [szSs, szSs_map r]; rfl
theorem sumN_mem {α : Type} (f : α → Nat) : ∀ {l : List α} {x : α}, x ∈ l → f x ≤ sumN (l.map f)
  | y :: r, x, h => by
    rw [List.map_cons, sumN]
    rcases List.mem_cons.1 h with rfl | h
    · omega
    · have := sumN_mem f h; omega
section
variable {lit : TVal → List UInt8} {qt : ByteArray → List UInt8}
/-- a literal's text is not much longer than the text -/
def LitLen (lit : TVal → List UInt8) : Prop := ∀ v, (lit v).length ≤ 32 + 4 * v.s.size
def QtLen (qt : ByteArray → List UInt8) : Prop := ∀ s, (qt s).length ≤ 2 + 4 * s.size
theorem gp_len (t : Bool) : (gp t).length ≤ 1 := by cases t <;> decide
theorem nl_len (t : Bool) : (nl t).length ≤ 1 := by cases t <;> decide
theorem tb_len (t : Bool) (i : Int) : (tb t i).length ≤ i.toNat := by unfold tb; split <;> simp
theorem sgnT_len (op : Int) : (sgnT op).length ≤ 2 := sgnT_all (fun s => s.length ≤ 2) (by decide) op
theorem rIn_len (b : Bool) (s : List UInt8) : (rIn b s).length ≤ s.length + 2 := by unfold rIn; split <;> simp
theorem rName_len (of nm : List UInt8) : (rName of nm).length ≤ of.length + nm.length + 1 := by unfold rName; split <;> (try simp only [List.length_append, List.length_cons]) <;> omega
theorem rSeq_len (t : Bool) : ∀ (l : List (Bool → List UInt8)) (b : Bool), (rSeq l b t).length ≤ sumN (l.map fun s => (s t).length + 2)
  | [], b => by simp [rSeq]
  | s :: r, b => by
    have h := rSeq_len t r false
    have hg := gp_len t
    rw [rSeq, List.map_cons, sumN]
    simp only [List.length_append]
    split
    · simp; omega
    · simp; omega
theorem rEs_map : ∀ l : List TExpr, rEs lit l = l.map (rE lit)
  | [] => by rw [rEs]; rfl
  | x :: r => by rw [rEs, rEs_map r]; rfl
theorem sumN_le {α : Type} {f g : α → Nat} : ∀ {l : List α}, (∀ x ∈ l, f x ≤ g x) → sumN (l.map f) ≤ sumN (l.map g)
  | [], _ => Nat.le_refl _
  | x :: r, h => by
    rw [List.map_cons, List.map_cons, sumN, sumN]
    have h1 := h x (by simp)
    have h2 := sumN_le (l := r) fun y hy => h y (by simp [hy])
    omega
theorem sumN_mul {α : Type} (c : Nat) (f : α → Nat) : ∀ l : List α, sumN (l.map fun x => c * f x) = c * sumN (l.map f)
  | [] => by simp [sumN]
  | x :: r => by rw [List.map_cons, List.map_cons, sumN, sumN, sumN_mul c f r, Nat.mul_add]
theorem lenE (hL : LitLen lit) : ∀ (n : Nat) (e : TExpr), SizeOf.sizeOf e < n → ∀ t, (rE lit e t).length + 8 ≤ 64 * szE e
  | 0, _, h, _ => absurd h (by omega)
  | n + 1, .mk k a of nm v op kids, hn, t => by
    have hk : ∀ x ∈ kids, (rE lit x t).length + 8 ≤ 64 * szE x := fun x hx => lenE hL n x (by have := List.sizeOf_lt_of_mem hx; simp at hn; omega) t
    have hs : sumN (kids.map fun x => (rE lit x t).length + 8) ≤ 64 * szEs kids := by
      rw [szEs_map, ← sumN_mul]; exact sumN_le hk
    have hv := hL v
    have ho := L_length of
    have hm := L_length nm
    have hn := rName_len (L of) (L nm)
    have hg := gp_len t
    have hop := sgnT_len op
    rw [rE, szE, rEs_map]
    unfold rNode
    split
    · omega
    split
    · omega
    split
    · have h1 := rSeq_len t (kids.map (rE lit)) true
      have h2 : sumN ((kids.map (rE lit)).map fun s => (s t).length + 2) ≤ sumN (kids.map fun x => (rE lit x t).length + 8) := by
        rw [List.map_map]; exact sumN_le fun x hx => by show (rE lit x t).length + 2 ≤ _; omega
      simp only [List.length_append, List.length_cons, List.length_nil]
      omega
    split
    · match kids, hs with
      | [], _ => simp; omega
      | [x], hs =>
        have h1 := rIn_len (inBr k op x.k x.op false) (rE lit x t)
        simp only [List.map_cons, List.map_nil, sumN] at hs
        show (sgnT op ++ rIn (inBr k op x.k x.op false) (rE lit x t)).length + 8 ≤ _
        rw [List.length_append]
        omega
      | x :: y :: r, _ => simp; omega
    · match kids, hs with
      | [], _ => simp; omega
      | [x], _ => simp; omega
      | [x, y], hs =>
        have h1 := rIn_len (inBr k op x.k x.op false) (rE lit x t)
        have h2 := rIn_len (inBr k op y.k y.op true) (rE lit y t)
        simp only [List.map_cons, List.map_nil, sumN] at hs
        show (rIn (inBr k op x.k x.op false) (rE lit x t) ++ (gp t ++ (sgnT op ++ (gp t ++ rIn (inBr k op y.k y.op true) (rE lit y t))))).length + 8 ≤ _
        simp only [List.length_append]
        omega
      | x :: y :: z :: r, _ => simp; omega
theorem len_e (hL : LitLen lit) (e : TExpr) (t : Bool) : (rE lit e t).length + 8 ≤ 64 * szE e := lenE hL _ e (Nat.lt_succ_self _) t
theorem kgap_len (l : UInt8) (s : List UInt8) (b : Bool) : (kgap l s b).length ≤ 1 := by unfold kgap sepL; repeat' split
                                                                                         all_goals simp
theorem rKey_len (k e et : List UInt8) (t : Bool) : (rKey k e et t).length ≤ k.length + e.length + 1 := by
  have := kgap_len 1 et t
  unfold rKey
  simp only [List.length_append]
  omega
theorem rLines_len (t : Bool) (j : Int) : ∀ l : List (Bool → Int → List UInt8), (rLines l t j).length ≤ sumN (l.map fun s => (s t j).length + 1 + j.toNat)
  | [] => by simp [rLines]
  | s :: r => by
    have h := rLines_len t j r
    have h1 := tb_len t j
    have h2 := nl_len t
    rw [rLines, List.map_cons, sumN]
    simp only [List.length_append]
    omega
theorem rBlk_len (t : Bool) (i : Int) (l : List (Bool → Int → List UInt8)) : (rBlk l t i).length ≤ 3 + i.toNat + sumN (l.map fun s => (s t (i + 1)).length + 1 + (i + 1).toNat) := by
  have h := rLines_len t (i + 1) l
  have h1 := tb_len t i
  have h2 := nl_len t
  unfold rBlk
  simp only [List.length_append, List.length_cons, List.length_nil]
  omega
/-- so long is a block at most, whose statements have so many parts -/
theorem blk_len {l : List TStmt} {t : Bool} {i : Int} (hi : 0 ≤ i) (h : ∀ x ∈ l, (rS lit x t (i + 1)).length + 16 + (i + 1).toNat ≤ 64 * szS x * ((i + 1).toNat + szS x + 1)) : (rBlk (rSs lit l) t i).length ≤ 3 + i.toNat + 64 * szSs l * (i.toNat + szSs l + 2) := by
  have h1 := rBlk_len t i (rSs lit l)
  have h2 : sumN ((rSs lit l).map fun s => (s t (i + 1)).length + 1 + (i + 1).toNat) ≤ sumN (l.map fun x => (64 * (i.toNat + szSs l + 2)) * szS x) := by
    rw [rSs_map, List.map_map]
    refine sumN_le fun x hx => ?_
    have h3 := h x hx
    have h4 : szS x ≤ szSs l := by rw [szSs_map]; exact sumN_mem szS hx
    have h5 : 64 * szS x * ((i + 1).toNat + szS x + 1) ≤ 64 * szS x * (i.toNat + szSs l + 2) := Nat.mul_le_mul_left _ (by omega)
    have h6 : 64 * szS x * (i.toNat + szSs l + 2) = (64 * (i.toNat + szSs l + 2)) * szS x := by
      rw [Nat.mul_assoc, Nat.mul_comm (szS x), ← Nat.mul_assoc]
    show (rS lit x t (i + 1)).length + 1 + (i + 1).toNat ≤ _
    omega
  rw [sumN_mul, ← szSs_map] at h2
  have h6 : 64 * (i.toNat + szSs l + 2) * szSs l = 64 * szSs l * (i.toNat + szSs l + 2) := by
    rw [Nat.mul_assoc, Nat.mul_comm (i.toNat + szSs l + 2), ← Nat.mul_assoc]
  omega
theorem szS_pos (s : TStmt) : 2 ≤ szS s := by
  obtain ⟨k, a, nm, e, body, els, he⟩ := s
  have := szE_pos e
  rw [szS]; omega
theorem len_arith {p b1 b2 i n1 n2 x n M : Nat} (hM : M = i + n + 1) (hn : n = 1 + x + n1 + n2) (hx : 1 ≤ x) (h1 : b1 ≤ 3 + i + 64 * n1 * (i + n1 + 2)) (h2 : b2 ≤ 3 + i + 64 * n2 * (i + n2 + 2)) (hp : p ≤ 64 * x + 24) : p + b1 + b2 + 16 + i ≤ 64 * n * M := by
  have e1 : 64 * n1 * (i + n1 + 2) ≤ 64 * n1 * M := Nat.mul_le_mul_left _ (by omega)
  have e2 : 64 * n2 * (i + n2 + 2) ≤ 64 * n2 * M := Nat.mul_le_mul_left _ (by omega)
  have e3 : 64 * n * M = 64 * M + 64 * x * M + 64 * n1 * M + 64 * n2 * M := by
    subst hn; simp only [Nat.mul_add, Nat.add_mul, Nat.mul_one]
  have e4 : 64 * x * 1 ≤ 64 * x * M := Nat.mul_le_mul_left _ (by omega)
  omega
theorem lenS (hL : LitLen lit) : ∀ (n : Nat) (s : TStmt), SizeOf.sizeOf s < n → ∀ t i, 0 ≤ i → (rS lit s t i).length + 16 + i.toNat ≤ 64 * szS s * (i.toNat + szS s + 1)
  | 0, _, h, _, _, _ => absurd h (by omega)
  | n + 1, .mk k a nm e body els he, hn, t, i, hi => by
    simp only [TStmt.mk.sizeOf_spec] at hn
    have hb := blk_len (lit := lit) (l := body) (t := t) hi fun x hx => lenS hL n x (by have := List.sizeOf_lt_of_mem hx; omega) t (i + 1) (by omega)
    have hl := blk_len (lit := lit) (l := els) (t := t) hi fun x hx => lenS hL n x (by have := List.sizeOf_lt_of_mem hx; omega) t (i + 1) (by omega)
    have hE := len_e hL e t
    have hm := L_length nm
    have hg := gp_len t
    have hz := szE_pos e
    have hfin : ∀ q b1 b2, q.length ≤ b1 + b2 + (64 * (nm.size + szE e) + 24) → b1 ≤ 3 + i.toNat + 64 * szSs body * (i.toNat + szSs body + 2) → b2 ≤ 3 + i.toNat + 64 * szSs els * (i.toNat + szSs els + 2) → (q : List UInt8).length + 16 + i.toNat ≤ 64 * szS (.mk k a nm e body els he) * (i.toNat + szS (.mk k a nm e body els he) + 1) := fun q b1 b2 h h1 h2 => by
      have := len_arith (p := 64 * (nm.size + szE e) + 24) (x := nm.size + szE e) (n := szS (.mk k a nm e body els he)) (M := i.toNat + szS (.mk k a nm e body els he) + 1) rfl (by rw [szS]; omega) (by omega) h1 h2 (by omega)
      omega
    have k1 : ∀ s : List UInt8, (rKey s (rE lit e t) (rE lit e true) t).length ≤ s.length + (rE lit e t).length + 1 := fun s => rKey_len _ _ _ _
    rw [rS]
    unfold rSN
    split
    · refine hfin _ 0 0 ?_ (by omega) (by omega)
      simp only [List.length_append, List.length_cons, List.length_nil]; omega
    split
    · refine hfin _ 0 0 ?_ (by omega) (by omega)
      simp only [List.length_append, List.length_cons, List.length_nil]; omega
    split
    · have k2 := k1 yIf
      have k3 : yIf.length = 2 := rfl
      have k4 : yElse.length = 4 := rfl
      by_cases h1 : he = true
      · by_cases h2 : chained (els.map TStmt.k) = true
        · match els, h2, hl, hn with
          | [], h2, _, _ => cases h2
          | [x], h2, hl, hn =>
            have h3 := lenS hL n x (by simp at hn; omega) t i hi
            have hx : szSs [x] = szS x := by rw [szSs, szSs]; rfl
            refine hfin _ (rBlk (rSs lit body) t i).length (rS lit x t i).length ?_ hb ?_
            · rw [if_pos h1, if_pos h2]
              have e1 : rSs lit [x] = [rS lit x] := by rw [rSs, rSs]
              rw [e1]
              simp only [List.length_append, List.length_cons, List.length_nil]; omega
            · rw [hx]
              have : 64 * szS x * (i.toNat + szS x + 1) ≤ 64 * szS x * (i.toNat + szS x + 2) := Nat.mul_le_mul_left _ (by omega)
              omega
          | x :: y :: r, h2, _, _ => cases h2
        · refine hfin _ (rBlk (rSs lit body) t i).length (rBlk (rSs lit els) t i).length ?_ hb hl
          rw [if_pos h1, if_neg h2]
          simp only [List.length_append, List.length_cons, List.length_nil]; omega
      · refine hfin _ (rBlk (rSs lit body) t i).length 0 ?_ hb (by omega)
        rw [if_neg h1]
        simp only [List.length_append, List.length_cons, List.length_nil]; omega
    split
    · have k2 := k1 yWhile
      have k3 : yWhile.length = 5 := rfl
      refine hfin _ (rBlk (rSs lit body) t i).length 0 ?_ hb (by omega)
      simp only [List.length_append, List.length_cons, List.length_nil]; omega
    split
    · have k2 := k1 yReturn
      have k3 : yReturn.length = 6 := rfl
      refine hfin _ 0 0 ?_ (by omega) (by omega)
      split <;> (simp only [List.length_append, List.length_cons, List.length_nil]; omega)
    split
    · have k2 := k1 yPrint
      have k3 : yPrint.length = 5 := rfl
      refine hfin _ 0 0 ?_ (by omega) (by omega)
      simp only [List.length_append, List.length_cons, List.length_nil]; omega
    · refine hfin _ 0 0 ?_ (by omega) (by omega)
      simp only [List.length_append, List.length_cons, List.length_nil]; omega
theorem len_s (hL : LitLen lit) (s : TStmt) (t : Bool) {i : Int} (hi : 0 ≤ i) : (rS lit s t i).length + 16 + i.toNat ≤ 64 * szS s * (i.toNat + szS s + 1) := lenS hL _ s (Nat.lt_succ_self _) t i hi
theorem yTyp_len (t : Int) : (yTyp t).length ≤ 4 := by unfold yTyp; repeat' split
                                                       all_goals decide
theorem len_f (hL : LitLen lit) (f : TFunc) (t : Bool) : (rF lit f t).length ≤ 64 * szF f * (szF f + 1) := by
  have hb := blk_len (lit := lit) (l := f.body) (t := t) (Int.le_refl 0) fun x hx => len_s hL x t (by omega)
  have hg := gp_len t
  have hn := nl_len t
  have hm := L_length f.nm
  have hp : (rSeq (f.ps.map rPar) true t).length ≤ sumN (f.ps.map fun x => 8 * (1 + x.nm.size)) := by
    refine Nat.le_trans (rSeq_len t _ _) ?_
    rw [List.map_map]
    refine sumN_le fun x hx => ?_
    have h1 := yTyp_len x.t
    have h2 := L_length x.nm
    show (L x.nm ++ (58 :: (gp t ++ yTyp x.t))).length + 2 ≤ _
    simp only [List.length_append, List.length_cons]; omega
  rw [sumN_mul] at hp
  have hr : (rRes f.res t).length ≤ 6 := by
    have h1 := yTyp_len f.res
    unfold rRes; split
    · simp
    · simp only [List.length_append, List.length_cons]; omega
  have he : (rF lit f t).length ≤ (rBlk (rSs lit f.body) t 0).length + (rSeq (f.ps.map rPar) true t).length + f.nm.size + 24 := by
    have k1 : yExport.length = 6 := rfl
    have k2 : yFunc.length = 4 := rfl
    unfold rF rExp rHead
    split <;> (simp only [List.length_append, List.length_cons, List.length_nil]; omega)
  have e0 : (0 : Int).toNat = 0 := rfl
  rw [e0] at hb
  have e1 : 64 * szSs f.body * (0 + szSs f.body + 2) ≤ 64 * szSs f.body * (szF f + 1) := Nat.mul_le_mul_left _ (by unfold szF; omega)
  have e2 : 64 * szF f * (szF f + 1) = 64 * (1 + f.nm.size + sumN (f.ps.map fun x => 1 + x.nm.size)) * (szF f + 1) + 64 * szSs f.body * (szF f + 1) := by
    rw [← Nat.add_mul, ← Nat.mul_add]; rfl
  have e3 : 64 * (1 + f.nm.size + sumN (f.ps.map fun x => 1 + x.nm.size)) * 1 ≤ 64 * (1 + f.nm.size + sumN (f.ps.map fun x => 1 + x.nm.size)) * (szF f + 1) := Nat.mul_le_mul_left _ (by omega)
  omega
theorem rIt_len (t : Bool) : ∀ l : List (Bool → List UInt8), (rIt l t).length = sumN (l.map fun s => (s t).length)
  | [] => rfl
  | s :: r => by rw [rIt, List.length_append, rIt_len t r]; rfl
theorem rFs_len (t : Bool) : ∀ (l : List (Bool → List UInt8)) (b : Bool), (rFs l b t).length ≤ sumN (l.map fun s => (s t).length + 1)
  | [], b => by simp [rFs]
  | s :: r, b => by
    have h := rFs_len t r true
    have h1 := nl_len t
    rw [rFs, List.map_cons, sumN]
    simp only [List.length_append]
    split
    · omega
    · simp; omega
theorem len_m (hL : LitLen lit) (hQ : QtLen qt) (m : TMod) (t : Bool) : (rM lit qt m t).length ≤ 65 * szM m * (szM m + 1) := by
  have hg := gp_len t
  have hn := nl_len t
  have h1 : (rIt (m.is.map (rI qt)) t).length ≤ 65 * (szM m + 1) * sumN (m.is.map szI) := by
    rw [rIt_len, List.map_map, ← sumN_mul]
    refine sumN_le fun x hx => ?_
    have h2 := hQ x.p
    have h3 := L_length x.nm
    have h4 : 65 * 1 * szI x ≤ 65 * (szM m + 1) * szI x := Nat.mul_le_mul_right _ (by omega)
    refine Nat.le_trans ?_ h4
    have k1 : yInclude.length = 7 := rfl
    have k2 : yAs.length = 2 := rfl
    show (rI qt x t).length ≤ _
    unfold rI szI
    simp only [List.length_append, List.length_cons, List.length_nil]
    omega
  have h2 : (rIt (m.cs.map (rC lit)) t).length ≤ 65 * (szM m + 1) * sumN (m.cs.map szC) := by
    rw [rIt_len, List.map_map, ← sumN_mul]
    refine sumN_le fun x hx => ?_
    have h2 := len_e hL x.e t
    have h3 := L_length x.nm
    have h4 : 65 * 1 * szC x ≤ 65 * (szM m + 1) * szC x := Nat.mul_le_mul_right _ (by omega)
    refine Nat.le_trans ?_ h4
    have k1 : yExport.length = 6 := rfl
    have k2 : yConst.length = 5 := rfl
    show (rC lit x t).length ≤ _
    unfold rC szC rExp
    split <;> (simp only [List.length_append, List.length_cons, List.length_nil]; omega)
  have h3 : (rFs (m.fs.map (rF lit)) (decide (0 < m.is.length + m.cs.length)) t).length ≤ 65 * (szM m + 1) * sumN (m.fs.map szF) := by
    refine Nat.le_trans (rFs_len t _ _) ?_
    rw [List.map_map, ← sumN_mul]
    refine sumN_le fun x hx => ?_
    have h2 := len_f hL x t
    have h3 : szF x ≤ szM m := by have := sumN_mem szF hx; unfold szM; omega
    have h4 : 64 * szF x * (szF x + 1) ≤ 64 * szF x * (szM m + 1) := Nat.mul_le_mul_left _ (by omega)
    have h5 : 65 * (szM m + 1) * szF x = 64 * szF x * (szM m + 1) + szF x * (szM m + 1) := by
      rw [← Nat.add_mul, Nat.mul_assoc, Nat.mul_comm (szM m + 1), ← Nat.mul_assoc]; congr 1; omega
    have h6 : 1 * 1 ≤ szF x * (szM m + 1) := Nat.mul_le_mul (by unfold szF; omega) (by omega)
    show (rF lit x t).length + 1 ≤ _
    omega
  have e1 : 65 * szM m * (szM m + 1) = 65 * (szM m + 1) * 1 + 65 * (szM m + 1) * sumN (m.is.map szI) + 65 * (szM m + 1) * sumN (m.cs.map szC) + 65 * (szM m + 1) * sumN (m.fs.map szF) := by
    rw [← Nat.mul_add, ← Nat.mul_add, ← Nat.mul_add, Nat.mul_assoc, Nat.mul_comm (szM m), ← Nat.mul_assoc]; rfl
  unfold rM
  simp only [List.length_append]
  have e2 : (if 0 < m.is.length ∧ 0 < m.cs.length then nl t else []).length ≤ 1 := by
    split
    · exact hn
    · simp
  omega
end
/-! ### levels -/
theorem uSeq_le {n : Int} (hn : 0 ≤ n) : ∀ {l : List Int}, (∀ x ∈ l, x ≤ n) → uSeq l ≤ n
  | [], _ => hn
  | x :: r, h => by
    have h1 := h x (by simp)
    have h2 := uSeq_le hn (l := r) fun y hy => h y (by simp [hy])
    rw [uSeq]; omega
theorem upEs_map : ∀ l : List TExpr, upEs l = l.map upE
  | [] => by rw [upEs]; rfl
  | x :: r => by rw [upEs, upEs_map r]; rfl
theorem upE_sz : ∀ (n : Nat) (e : TExpr), SizeOf.sizeOf e < n → upE e ≤ 2 * szE e
  | 0, _, h => absurd h (by omega)
  | n + 1, .mk k a of nm v op kids, hn => by
    have hk : ∀ x ∈ kids, upE x ≤ 2 * szE x := fun x hx => upE_sz n x (by have := List.sizeOf_lt_of_mem hx; simp at hn; omega)
    have hs : ∀ x ∈ kids, upE x ≤ 2 * szEs kids := fun x hx => by
      have := hk x hx
      have h2 : szE x ≤ szEs kids := by rw [szEs_map]; exact sumN_mem szE hx
      omega
    rw [upE, szE, upEs_map]
    unfold upN
    split
    · have : uSeq (kids.map upE) ≤ 2 * szEs kids := uSeq_le (by omega) fun y hy => by
        obtain ⟨x, hx, rfl⟩ := List.mem_map.1 hy
        exact hs x hx
      omega
    split
    · match kids, hs with
      | [], _ => simp; omega
      | [x], hs =>
        have := hs x (by simp)
        show (if inBr k op x.k x.op false = true then upE x + 1 else upE x) + 1 ≤ _
        split <;> omega
      | x :: y :: r, _ => simp; omega
    split
    · match kids, hs with
      | [], _ => simp; omega
      | [x], _ => simp; omega
      | [x, y], hs =>
        have h1 := hs x (by simp)
        have h2 := hs y (by simp)
        show max (if inBr k op x.k x.op false = true then upE x + 1 else upE x) (if inBr k op y.k y.op true = true then upE y + 1 else upE y) ≤ _
        split <;> split <;> omega
      | x :: y :: z :: r, _ => simp; omega
    · omega
theorem upE_le (e : TExpr) : upE e ≤ 2 * szE e := upE_sz _ e (Nat.lt_succ_self _)
theorem upS_sz : ∀ (n : Nat) (s : TStmt), SizeOf.sizeOf s < n → upS s ≤ 2 * szS s
  | 0, _, h => absurd h (by omega)
  | n + 1, .mk k a nm e body els he, hn => by
    simp only [TStmt.mk.sizeOf_spec] at hn
    have hb : uSeq (upSs body) ≤ 2 * szSs body := uSeq_le (by omega) fun y hy => by
      rw [upSs_map] at hy
      obtain ⟨x, hx, rfl⟩ := List.mem_map.1 hy
      have h1 := upS_sz n x (by have := List.sizeOf_lt_of_mem hx; omega)
      have h2 : szS x ≤ szSs body := by rw [szSs_map]; exact sumN_mem szS hx
      omega
    have hl : uSeq (upSs els) ≤ 2 * szSs els := uSeq_le (by omega) fun y hy => by
      rw [upSs_map] at hy
      obtain ⟨x, hx, rfl⟩ := List.mem_map.1 hy
      have h1 := upS_sz n x (by have := List.sizeOf_lt_of_mem hx; omega)
      have h2 : szS x ≤ szSs els := by rw [szSs_map]; exact sumN_mem szS hx
      omega
    have hE := upE_le e
    rw [upS, szS]
    unfold upSN
    split <;> split <;> (try split) <;> omega
theorem upS_le (s : TStmt) : upS s ≤ 2 * szS s := upS_sz _ s (Nat.lt_succ_self _)
theorem upM_le (m : TMod) : upM m ≤ 2 * szM m := by
  unfold upM
  have h1 : uSeq (m.cs.map fun c => upE c.e) ≤ 2 * szM m := uSeq_le (by omega) fun y hy => by
    obtain ⟨x, hx, rfl⟩ := List.mem_map.1 hy
    have h1 := upE_le x.e
    have h2 := sumN_mem szC hx
    unfold szM
    have : szE x.e ≤ szC x := by unfold szC; omega
    omega
  have h2 : uSeq (m.fs.map fun f => 1 + uSeq (upSs f.body)) ≤ 2 * szM m := uSeq_le (by omega) fun y hy => by
    obtain ⟨x, hx, rfl⟩ := List.mem_map.1 hy
    have h2 := sumN_mem szF hx
    have hb : uSeq (upSs x.body) ≤ 2 * szSs x.body := uSeq_le (by omega) fun y hy => by
      rw [upSs_map] at hy
      obtain ⟨s, hs, rfl⟩ := List.mem_map.1 hy
      have h1 := upS_le s
      have h2 : szS s ≤ szSs x.body := by rw [szSs_map]; exact sumN_mem szS hs
      omega
    unfold szM
    have : 1 + szSs x.body ≤ szF x := by unfold szF; omega
    show 1 + uSeq (upSs x.body) ≤ _
    omega
  omega
end Go.Proofs.YtaddhpeainliiaaGreatDoor.Id
/-! ## ShelfRep -/
namespace Go.Proofs
open Go.Shelf
def Tryz.lays105_ren : Go.Shelf.Ren := ⟨fun | 105 => 200 | 212 => 217 | 99 => 135 | 165 => 218 | 166 => 114 | 170 => 51 | 169 => 52 | 263 => 228 | 264 => 229 | 206 => 175 | 240 => 153 | 241 => 230 | 276 => 180 | 277 => 233 | n => n, fun | 9 => 9 | 3 => 3 | 4 => 4 | 20 => 20 | 0 => 0 | 46 => 167 | 109 => 240 | 5 => 5 | 72 => 105 | 76 => 165 | 51 => 214 | 146 => 250 | 53 => 193 | 148 => 252 | 70 => 102 | 37 => 103 | 75 => 163 | 127 => 130 | 164 => 209 | 80 => 110 | n => n, fun | n => n⟩
theorem Tryz.lays105 : Go.Proofs.Lays.n105 Tryz.prog Tryz.lays105_ren := {
  mixed := by kernel_rfl
  f99 := Tryz.func135.trans (congrArg some (by kernel_rfl))
  f105 := Tryz.func200.trans (congrArg some (by kernel_rfl))
  f165 := Tryz.func218.trans (congrArg some (by kernel_rfl))
  f166 := Tryz.func114.trans (congrArg some (by kernel_rfl))
  f169 := Tryz.func52.trans (congrArg some (by kernel_rfl))
  f170 := Tryz.func51.trans (congrArg some (by kernel_rfl))
  f206 := Tryz.func175.trans (congrArg some (by kernel_rfl))
  f212 := Tryz.func217.trans (congrArg some (by kernel_rfl))
  f240 := Tryz.func153.trans (congrArg some (by kernel_rfl))
  f241 := Tryz.func230.trans (congrArg some (by kernel_rfl))
  f263 := Tryz.func228.trans (congrArg some (by kernel_rfl))
  f264 := Tryz.func229.trans (congrArg some (by kernel_rfl))
  f276 := Tryz.func180.trans (congrArg some (by kernel_rfl))
  f277 := Tryz.func233.trans (congrArg some (by kernel_rfl))
  t0 := Tryz.underlying0
  a0 := Tryz.isAgg0
  z0 := Tryz.sizeOf0
  v0 := Tryz.zeroValue0
  t3 := Tryz.underlying3
  a3 := Tryz.isAgg3
  z3 := Tryz.sizeOf3
  v3 := Tryz.zeroValue3
  t4 := Tryz.underlying4
  a4 := Tryz.isAgg4
  z4 := Tryz.sizeOf4
  v4 := Tryz.zeroValue4
  t5 := Tryz.underlying5
  a5 := Tryz.isAgg5
  z5 := Tryz.sizeOf5
  v5 := Tryz.zeroValue5
  t9 := Tryz.underlying9
  a9 := Tryz.isAgg9
  z9 := Tryz.sizeOf9
  v9 := Tryz.zeroValue9
  t20 := Tryz.underlying20
  a20 := Tryz.isAgg20
  z20 := Tryz.sizeOf20
  v20 := Tryz.zeroValue20
  t37 := Tryz.underlying103
  a37 := Tryz.isAgg103
  z37 := Tryz.sizeOf103
  v37 := Tryz.zeroValue103
  t46 := Tryz.underlying167
  a46 := Tryz.isAgg167
  z46 := Tryz.sizeOf167
  v46 := Tryz.zeroValue167
  t51 := Tryz.underlying214
  a51 := Tryz.isAgg214
  z51 := Tryz.sizeOf214
  v51 := Tryz.zeroValue214
  t53 := Tryz.underlying193
  a53 := Tryz.isAgg193
  z53 := Tryz.sizeOf193
  v53 := Tryz.zeroValue193
  t70 := Tryz.underlying102
  a70 := Tryz.isAgg102
  z70 := Tryz.sizeOf102
  v70 := Tryz.zeroValue102
  t72 := Tryz.underlying105
  a72 := Tryz.isAgg105
  z72 := Tryz.sizeOf105
  v72 := Tryz.zeroValue105
  t75 := Tryz.underlying163
  a75 := Tryz.isAgg163
  z75 := Tryz.sizeOf163
  v75 := Tryz.zeroValue163
  t76 := Tryz.underlying165
  a76 := Tryz.isAgg165
  z76 := Tryz.sizeOf165
  v76 := Tryz.zeroValue165
  t109 := Tryz.underlying240
  a109 := Tryz.isAgg240
  z109 := Tryz.sizeOf240
  v109 := Tryz.zeroValue240
  t127 := Tryz.underlying130
  a127 := Tryz.isAgg130
  z127 := Tryz.sizeOf130
  v127 := Tryz.zeroValue130
  t146 := Tryz.underlying250
  a146 := Tryz.isAgg250
  z146 := Tryz.sizeOf250
  v146 := Tryz.zeroValue250
  t148 := Tryz.underlying252
  a148 := Tryz.isAgg252
  z148 := Tryz.sizeOf252
  v148 := Tryz.zeroValue252
  t164 := Tryz.underlying209
  a164 := Tryz.isAgg209
  z164 := Tryz.sizeOf209
  v164 := Tryz.zeroValue209 }
theorem Tryz.Builder_Extra_105 : Builder.Extra Tryz.prog Tryz.lays105_ren := {
  sizeBuilder := by kernel_rfl
  liesBuilder := by kernel_rfl
  t5 := Tryz.underlying5
  a5 := Tryz.isAgg5
  z5 := Tryz.sizeOf5
  v5 := Tryz.zeroValue5
  infoByte := by kernel_rfl
  cellsByte := by kernel_rfl
  sizeByte := by kernel_rfl
  neB5 := by decide }
open Go.RowKit Go.Lib in
/-- THE MAIN CASE: at least two copies of a string that is not empty. (LAID: no walk: one application.) -/
theorem Tryz.strings_Repeat_main (s : ByteArray) (c : Nat) (w : World) (hc2 : 2 ≤ c) (hc : c ≤ 9223372036854775807) (hlen : s.size * c ≤ 140737488355328) (h0 : 0 < s.size) :
    Calls Tryz.prog 200 #[.string s, .int .i64 c] w fun e w' => e = .returned (.string ⟨(Lib.repeatL s.data.toList c).toArray⟩) ∧ Below w.heap.size w w' := Any.strings_Repeat_main Tryz.lays105 Tryz.Builder_Extra_105 s c w hc2 hc hlen h0
open Go.RowKit Go.Lib in
theorem Tryz.strings_Repeat_zero (s : ByteArray) (w : World) :
    Calls Tryz.prog 200 #[.string s, .int .i64 0] w fun e w' => e = .returned (.string ⟨#[]⟩) ∧ w' = w := Any.strings_Repeat_zero Tryz.lays105 s w
open Go.RowKit Go.Lib in
theorem Tryz.strings_Repeat_one (s : ByteArray) (w : World) :
    Calls Tryz.prog 200 #[.string s, .int .i64 1] w fun e w' => e = .returned (.string s) ∧ w' = w := Any.strings_Repeat_one Tryz.lays105 s w
open Go.RowKit Go.Lib in
/-- Copies of the empty string. (LAID: no walk: one application.) -/
theorem Tryz.strings_Repeat_empty (s : ByteArray) (c : Nat) (w : World) (hc2 : 2 ≤ c) (hc : c ≤ 9223372036854775807) (h0 : s.size = 0) :
    Calls Tryz.prog 200 #[.string s, .int .i64 c] w fun e w' => e = .returned (.string ⟨#[]⟩) ∧ w' = w := Any.strings_Repeat_empty Tryz.lays105 s c w hc2 hc h0
open Go.RowKit Go.Lib in
/-- count < 0: "It panics if count is negative". (LAID: no walk: one application.) -/
theorem Tryz.strings_Repeat_negative (s : ByteArray) (c : Int) (w : World) (hc : c < 0) :
    Calls Tryz.prog 200 #[.string s, .int .i64 c] w fun e w' => e = .panicked [{ v := repeatPanic Tryz.lays105_ren "strings: negative Repeat count", recovered := false }] ∧ w' = w := Any.strings_Repeat_negative Tryz.lays105 s c w hc
open Go.RowKit Go.Lib in
/-- len(s) * count is no int: ".. or if the result of (len(s) * count) overflows". (LAID: no walk: one application.) -/
theorem Tryz.strings_Repeat_overflow (s : ByteArray) (c : Nat) (w : World) (hc : c ≤ 9223372036854775807) (hs : s.size ≤ 9223372036854775807) (hbig : 9223372036854775807 < s.size * c) :
    Calls Tryz.prog 200 #[.string s, .int .i64 c] w fun e w' => e = .panicked [{ v := repeatPanic Tryz.lays105_ren "strings: Repeat output length overflow", recovered := false }] ∧ w' = w := Any.strings_Repeat_overflow Tryz.lays105 s c w hc hs hbig
open Go.RowKit Go.Lib in
/-- **strings.Repeat: count ≥ 0, the result within one allocation: count copies of s.** (LAID: no walk: one application.) -/
theorem Tryz.strings_Repeat (s : ByteArray) (c : Nat) (w : World) (hc : c ≤ 9223372036854775807) (hlen : s.size * c ≤ 140737488355328) :
    Calls Tryz.prog 200 #[.string s, .int .i64 c] w fun e w' => e = .returned (.string ⟨(Lib.repeatL s.data.toList c).toArray⟩) ∧ Below w.heap.size w w' := Any.strings_Repeat Tryz.lays105 Tryz.Builder_Extra_105 s c w hc hlen
end Go.Proofs
/-! ## LaidI -/
namespace Go.Proofs.YtaddhpeainliiaaGreatDoor.P
open Go.RowKit
theorem gErrS : Tryz.prog.globalNamed "strconv.ErrSyntax" = some 4 := by kernel_rfl
theorem gErrR : Tryz.prog.globalNamed "strconv.ErrRange" = some 5 := by kernel_rfl
theorem starE : "*" ++ "errors.errorString" = "*errors.errorString" := by decide
theorem rowE (u : TypeId) (h : Tryz.prog.typeName? 3 u = some "*errors.errorString") : u = 254 :=
  typeName_ptr_named (nm := "errors.errorString") (by rw [starE]; kernel_rfl) (by kernel_rfl) (by decide) u (by rw [starE]; exact h)
theorem cellsOfTab : Tryz.prog.cellsOf 213 = 20 := by kernel_rfl
theorem inv_of_laid {W : World} {l0 l1 : String × DataW Unit} {r : List (String × DataW Unit)} {text : List UInt8}
    (h : laidMet Tryz.prog (l0 :: l1 :: ("internal/strconv.uint64pow10", Lib.tabData .u64 Lib.pow10Tab) :: ("strconv.ErrRange", .iface "*errors.errorString" (.ptr (.agg [.lit (.string text)]))) :: r) W) : Inv W := by
  constructor
  · exact Lib.tabIs_of_head (t := 213) (n := 20) gPow (by kernel_rfl) Tryz.underlying213 Tryz.underlying193 (by kernel_rfl) (by kernel_rfl) h.tail.tail
  · obtain ⟨a1, s1, hv1, -, -, -⟩ := laid_sentinel (ti := 163) (tp := 254) (te := 256) (ts := 9) h.tail.tail.tail gErrR (by kernel_rfl) Tryz.underlying163 rowE Tryz.underlying254 Tryz.underlying256 rfl rfl Tryz.underlying9 (by kernel_rfl) (by kernel_rfl)
    exact ⟨_, by have h0 := World.var?_cell gErrR hv1 0; simpa using h0, Or.inr ⟨_, _, rfl⟩⟩
theorem inv_of_laid1 {W : World} {l0 l1 l2 : String × DataW Unit} {r : List (String × DataW Unit)} {text : List UInt8}
    (h : laidMet Tryz.prog (l0 :: l1 :: ("internal/strconv.uint64pow10", Lib.tabData .u64 Lib.pow10Tab) :: l2 :: ("strconv.ErrRange", .iface "*errors.errorString" (.ptr (.agg [.lit (.string text)]))) :: r) W) : Inv W := by
  constructor
  · exact Lib.tabIs_of_head (t := 213) (n := 20) gPow (by kernel_rfl) Tryz.underlying213 Tryz.underlying193 (by kernel_rfl) (by kernel_rfl) h.tail.tail
  · obtain ⟨a1, s1, hv1, -, -, -⟩ := laid_sentinel (ti := 163) (tp := 254) (te := 256) (ts := 9) h.tail.tail.tail.tail gErrR (by kernel_rfl) Tryz.underlying163 rowE Tryz.underlying254 Tryz.underlying256 rfl rfl Tryz.underlying9 (by kernel_rfl) (by kernel_rfl)
    exact ⟨_, by have h0 := World.var?_cell gErrR hv1 0; simpa using h0, Or.inr ⟨_, _, rfl⟩⟩
end Go.Proofs.YtaddhpeainliiaaGreatDoor.P
/-! ## PaRightG -/
namespace Go.Proofs.YtaddhpeainliiaaGreatDoor.Id
open Go
set_option linter.unusedVariables false
set_option linter.unusedSimpArgs false
set_option maxRecDepth 100000
set_option maxHeartbeats 4000000
variable {X : Given}
theorem rnothing_does (e : TExpr) : Does X 152 [.agg (eD e)] [] (.ret (vB (noneE e)) []) := by
  obtain ⟨k, a, of, nm, v, op, kids⟩ := e
  have e1 := dsAll_len kids
  refine DoesQ.eq (DoesQ.of Tryz.func152 (by kernel_rfl) ?_)
  dsimp only [eD, TExpr.k, TExpr.a, TExpr.of, TExpr.nm, TExpr.v, TExpr.op, TExpr.kids]
  repeat' first | refine WP.iteT (by assumption) ?_ | refine WP.iteF (by assumption) ?_ | refine WP.ite (fun _ => ?_) (fun _ => ?_) | refine WP.leaf ?_ | refine WP.asrt (by kernel_rfl) ?_
  all_goals
    refine congrArg (fun b => Out.ret (vB b) []) ?_
    change _ = noneN k of nm v op kids.length
    unfold noneN noVal
    simp_all [bytes_empty]
theorem rstmts_loop (l : List TStmt) (hk : l.length ≤ 1000000000) (hD : ∀ x ∈ l, Does X 111 [.agg (sD x)] [] (.ret (vB (rightS x)) [])) (K : Ex → St → Id.T Out) (Q : Out → Prop)
    (hE : rightSs l = true → WP X (K (.exit 0) ⟨[], []⟩) Q) (hR : rightSs l = false → WP X (K .ret ⟨[(2, .lit false)], []⟩) Q) :
    ∀ (r p : List TStmt), l = p ++ r → rightSs p = true → ∀ σ : St, getT σ.t 0 = .d (.sl 16 (ssAll l)) → getT σ.t 3 = vI p.length → WP X (.loop (lp Tryz.f67 0) σ K) Q
  | r, p, h, hp, σ, g0, g3 => by
    refine WP.round ⟨[(0, .d (.sl 16 (ssAll l))), (3, vI p.length)], []⟩ ⟨⟨.inl g0.symm, .inl g3.symm, trivial⟩, trivial⟩ ?_
    have hlen : l.length = p.length + r.length := by rw [h]; simp
    cases r with
    | nil =>
      refine WP.iteF (by rw [ssAll_len]; simp at hlen; simp; omega) ?_
      refine WP.leaf ⟨⟨[], []⟩, ⟨trivial, trivial⟩, hE (by rw [h]; simpa using hp)⟩
    | cons y r =>
      simp only [List.length_cons] at hlen
      refine WP.iteT (by rw [ssAll_len]; simp; omega) ?_
      refine WP.idx _ (by omega) (ssAll_get h) ?_
      refine WP.use1 (hD y (by rw [h]; simp)) ?_
      refine WP.ite (fun hx => ?_) (fun hx => ?_)
      · refine WP.leaf ⟨⟨[(2, .lit false)], []⟩, ⟨⟨.inl rfl, trivial⟩, trivial⟩, hR ?_⟩
        rw [h, rightSs_app, rightSs]
        simp at hx; simp [hx]
      · refine WP.leaf ?_
        refine rstmts_loop l hk hD K Q hE hR r (p ++ [y]) (by rw [h]; simp) (by rw [rightSs_app, hp]; simp at hx; simp [rightSs, hx]) _ rfl ?_
        show vI (IntKind.i64.wrap ((p.length : Int) + 1)) = _
        rw [wrapI (by omega) (by omega)]; simp
theorem rstmts_chk (l : List TStmt) (hk : l.length ≤ 1000000000) (hD : ∀ x ∈ l, Does X 111 [.agg (sD x)] [] (.ret (vB (rightS x)) [])) : Does X 67 [.d (.sl 16 (ssAll l))] [] (.ret (vB (rightSs l)) []) := by
  refine DoesQ.eq (DoesQ.of Tryz.func67 (by kernel_rfl) ?_)
  refine rstmts_loop l hk hD _ _ ?_ ?_ l [] rfl rfl _ rfl rfl
  · intro h; exact WP.leaf (by rw [h])
  · intro h; exact WP.leaf (by rw [h])
theorem rstmt_chk (hX : LibX X) : ∀ (n : Nat) (s : TStmt), SizeOf.sizeOf s < n → smS s → Does X 111 [.agg (sD s)] [] (.ret (vB (rightS s)) [])
  | 0, e, h, _ => absurd h (Nat.not_lt_zero _)
  | n + 1, .mk k a nm e body els he, hn, hs => by
    simp only [smS] at hs
    obtain ⟨h1, h2, h3, h4, h5, h6⟩ := hs
    simp only [TStmt.mk.sizeOf_spec] at hn
    have hb := rstmts_chk (X := X) body h3 (fun x hx => rstmt_chk hX n x (by have := List.sizeOf_lt_of_mem hx; omega) (smSs_mem h5 hx))
    have hl := rstmts_chk (X := X) els h4 (fun x hx => rstmt_chk hX n x (by have := List.sizeOf_lt_of_mem hx; omega) (smSs_mem h6 hx))
    have hw := rword (X := X) nm h1
    have hr := rright_does hX (SizeOf.sizeOf e + 1) e (Nat.lt_succ_self _) h2
    have hN := rnothing_does (X := X) e
    have e1 := ssAll_len body
    have e2 := ssAll_len els
    have e3 : body.length = 0 → rightSs body = true := fun h => by rw [List.length_eq_zero_iff.1 h, rightSs]
    have e4 : els.length = 0 → rightSs els = true := fun h => by rw [List.length_eq_zero_iff.1 h, rightSs]
    refine DoesQ.eq (DoesQ.of Tryz.func111 (by kernel_rfl) ?_)
    clear hn h1 h2 h3 h4 h5 h6
    dsimp only [sD, TStmt.k, TStmt.a, TStmt.nm, TStmt.e, TStmt.body, TStmt.els, TStmt.he]
    rw [rightS]
    repeat' first | refine WP.iteT (by assumption) ?_ | refine WP.iteF (by assumption) ?_ | refine WP.ite (fun _ => ?_) (fun _ => ?_) | refine WP.leaf ?_ | refine WP.use1 hb ?_ | refine WP.use1 hl ?_ | refine WP.use1 hr ?_ | refine WP.use1 hw ?_ | refine WP.use1 hN ?_ | refine WP.asrt (by kernel_rfl) ?_
    all_goals
      clear hw hb hl hr hN hX
      refine congrArg (fun b => Out.ret (vB b) []) ?_
      unfold rightSN
      simp_all [bytes_empty]
theorem qI_loop (l : List TIncl) (hk : l.length ≤ 1000000000) (hD : ∀ x ∈ l, x.nm.size ≤ 1048576) (m : TMod) (hm : m.is = l) (K : Ex → St → Id.T Out) (Q : Out → Prop)
    (hE : l.all rightI = true → WP X (K (.exit 0) ⟨[(1, .box 1 0)], [(1, mV m)]⟩) Q) (hR : l.all rightI = false → WP X (K .ret ⟨[(2, .lit false)], []⟩) Q) :
    ∀ (r p : List TIncl), l = p ++ r → p.all rightI = true → ∀ σ : St, getT σ.t 1 = .box 1 0 → getB σ.b 1 = some (mV m) → getT σ.t 3 = vI p.length → WP X (.loop (lp Tryz.f45 0) σ K) Q
  | r, p, h, hp, σ, g1, gb, g3 => by
    refine WP.round ⟨[(1, .box 1 0), (3, vI p.length)], [(1, mV m)]⟩ ⟨⟨.inl g1.symm, .inl g3.symm, trivial⟩, ⟨WkB.box gb, trivial⟩⟩ ?_
    have hlen : l.length = p.length + r.length := by rw [h]; simp
    cases r with
    | nil =>
      refine WP.iteF (by simp at hlen; simp [hm]; omega) ?_
      refine WP.leaf ⟨⟨[(1, .box 1 0)], [(1, mV m)]⟩, ⟨⟨.inl rfl, trivial⟩, ⟨WkB.box rfl, trivial⟩⟩, hE (by rw [h]; simpa using hp)⟩
    | cons y r =>
      simp only [List.length_cons] at hlen
      have hw := rword (X := X) y.nm (hD y (by rw [h]; simp))
      refine WP.iteT (by simp [hm]; omega) ?_
      refine WP.idx _ (by omega) (map_get _ (hm.trans h)) ?_
      have hgo : rightI y = true → ∀ σ : St, getT σ.t 1 = .box 1 0 → getB σ.b 1 = some (mV m) → getT σ.t 3 = vI (IntKind.i64.wrap ((p.length : Int) + 1)) → WP X (.loop (lp Tryz.f45 0) σ K) Q := fun hy σ e1 eb e14 => by
        refine qI_loop l hk hD m hm K Q hE hR r (p ++ [y]) (by rw [h]; simp) (by rw [all_app, hp]; simp [hy]) σ e1 eb ?_
        rw [e14, wrapI (by omega) (by omega)]; simp
      have hno : rightI y = false → WP X (K .ret ⟨[(2, .lit false)], []⟩) Q := fun hy => hR (by rw [h, all_app]; simp [hy])
      refine WP.use1 hw ?_
      repeat' first | refine WP.iteT (by assumption) ?_ | refine WP.iteF (by assumption) ?_ | refine WP.ite (fun _ => ?_) (fun _ => ?_) | refine WP.idx _ (by omega) (map_get _ (hm.trans h)) ?_ | refine WP.leaf ?_
      all_goals first
        | exact ⟨⟨[(2, .lit false)], []⟩, ⟨⟨.inl rfl, trivial⟩, trivial⟩, hno (by unfold rightI; simp_all <;> omega)⟩
        | exact hgo (by unfold rightI; simp_all <;> omega) _ rfl rfl rfl
theorem qC_loop (hX : LibX X) (l : List TCons) (hk : l.length ≤ 1000000000) (hD : ∀ c ∈ l, c.nm.size ≤ 1048576 ∧ smE c.e) (m : TMod) (hm : m.cs = l) (K : Ex → St → Id.T Out) (Q : Out → Prop)
    (hE : l.all rightC = true → WP X (K (.exit 2) ⟨[(1, .box 1 0)], [(1, mV m)]⟩) Q) (hR : l.all rightC = false → WP X (K .ret ⟨[(2, .lit false)], []⟩) Q) :
    ∀ (r p : List TCons), l = p ++ r → p.all rightC = true → ∀ σ : St, getT σ.t 1 = .box 1 0 → getB σ.b 1 = some (mV m) → getT σ.t 4 = vI p.length → WP X (.loop (lp Tryz.f45 1) σ K) Q
  | r, p, h, hp, σ, g1, gb, g3 => by
    refine WP.round ⟨[(1, .box 1 0), (4, vI p.length)], [(1, mV m)]⟩ ⟨⟨.inl g1.symm, .inl g3.symm, trivial⟩, ⟨WkB.box gb, trivial⟩⟩ ?_
    have hlen : l.length = p.length + r.length := by rw [h]; simp
    cases r with
    | nil =>
      refine WP.iteF (by simp at hlen; simp [hm]; omega) ?_
      refine WP.leaf ⟨⟨[(1, .box 1 0)], [(1, mV m)]⟩, ⟨⟨.inl rfl, trivial⟩, ⟨WkB.box rfl, trivial⟩⟩, hE (by rw [h]; simpa using hp)⟩
    | cons y r =>
      simp only [List.length_cons] at hlen
      have hy := hD y (by rw [h]; simp)
      have hw := rword (X := X) y.nm hy.1
      have hr := rright_does hX (SizeOf.sizeOf y.e + 1) y.e (Nat.lt_succ_self _) hy.2
      refine WP.iteT (by simp [hm]; omega) ?_
      refine WP.idx _ (by omega) (map_get _ (hm.trans h)) ?_
      have hgo : rightC y = true → ∀ σ : St, getT σ.t 1 = .box 1 0 → getB σ.b 1 = some (mV m) → getT σ.t 4 = vI (IntKind.i64.wrap ((p.length : Int) + 1)) → WP X (.loop (lp Tryz.f45 1) σ K) Q := fun hy σ e1 eb e14 => by
        refine qC_loop hX l hk hD m hm K Q hE hR r (p ++ [y]) (by rw [h]; simp) (by rw [all_app, hp]; simp [hy]) σ e1 eb ?_
        rw [e14, wrapI (by omega) (by omega)]; simp
      have hno : rightC y = false → WP X (K .ret ⟨[(2, .lit false)], []⟩) Q := fun hy => hR (by rw [h, all_app]; simp [hy])
      refine WP.use1 hw ?_
      repeat' first | refine WP.iteT (by assumption) ?_ | refine WP.iteF (by assumption) ?_ | refine WP.ite (fun _ => ?_) (fun _ => ?_) | refine WP.idx _ (by omega) (map_get _ (hm.trans h)) ?_ | refine WP.use1 hr ?_ | refine WP.leaf ?_
      all_goals first
        | exact ⟨⟨[(2, .lit false)], []⟩, ⟨⟨.inl rfl, trivial⟩, trivial⟩, hno (by unfold rightC; simp_all)⟩
        | exact hgo (by unfold rightC; simp_all) _ rfl rfl rfl
theorem qP_loop {β : Type} (f : TFunc) (l : List TParam) (hf : f.ps = l) (hk : l.length ≤ 1000000000) (hD : ∀ p ∈ l, p.nm.size ≤ 1048576) (m : TMod) (n5 : Int) (K : Ex → St → Id.T β) (Q : β → Prop)
    (hE : l.all rightP = true → WP X (K (.exit 6) ⟨[(1, .box 1 0), (5, vI n5)], [(1, mV m)]⟩) Q) (hR : l.all rightP = false → WP X (K .ret ⟨[(2, .lit false)], []⟩) Q) :
    ∀ (r p : List TParam), l = p ++ r → p.all rightP = true → ∀ σ : St, getT σ.t 1 = .box 1 0 → getT σ.t 5 = vI n5 → getT σ.t 6 = .box 6 0 → getT σ.t 7 = vI p.length → getB σ.b 1 = some (mV m) → getB σ.b 6 = some [vS f.nm, vB f.ex, vI f.a, .d (.sl 2 (psD f.ps)), vI f.res, .d (.sl 16 (ssAll f.body))] → WP X (.loop (lp Tryz.f45 3) σ K) Q
  | r, p, h, hp, σ, g1, g5, g6, g7, gb, gb6 => by
    refine WP.round ⟨[(1, .box 1 0), (5, vI n5), (6, .box 6 0), (7, vI p.length)], [(1, mV m), (6, [vS f.nm, vB f.ex, vI f.a, .d (.sl 2 (psD f.ps)), vI f.res, .d (.sl 16 (ssAll f.body))])]⟩ ⟨⟨.inl g1.symm, .inl g5.symm, .inl g6.symm, .inl g7.symm, trivial⟩, ⟨WkB.box gb, WkB.box gb6, trivial⟩⟩ ?_
    have hlen : l.length = p.length + r.length := by rw [h]; simp
    cases r with
    | nil =>
      refine WP.iteF (by simp at hlen; simp [hf]; omega) ?_
      refine WP.leaf ⟨⟨[(1, .box 1 0), (5, vI n5)], [(1, mV m)]⟩, ⟨⟨.inl rfl, .inl rfl, trivial⟩, ⟨WkB.box rfl, trivial⟩⟩, hE (by rw [h]; simpa using hp)⟩
    | cons y r =>
      simp only [List.length_cons] at hlen
      have hw := rword (X := X) y.nm (hD y (by rw [h]; simp))
      refine WP.iteT (by simp [hf]; omega) ?_
      refine WP.idx _ (by omega) (map_get pD (hf.trans h)) ?_
      have hgo : rightP y = true → ∀ σ : St, getT σ.t 1 = .box 1 0 → getT σ.t 5 = vI n5 → getT σ.t 6 = .box 6 0 → getT σ.t 7 = vI (IntKind.i64.wrap ((p.length : Int) + 1)) → getB σ.b 1 = some (mV m) → getB σ.b 6 = some [vS f.nm, vB f.ex, vI f.a, .d (.sl 2 (psD f.ps)), vI f.res, .d (.sl 16 (ssAll f.body))] → WP X (.loop (lp Tryz.f45 3) σ K) Q := fun hy σ e1 e5 e6 e7 eb eb6 => by
        refine qP_loop f l hf hk hD m n5 K Q hE hR r (p ++ [y]) (by rw [h]; simp) (by rw [all_app, hp]; simp [hy]) σ e1 e5 e6 ?_ eb eb6
        rw [e7, wrapI (by omega) (by omega)]; simp
      have hno : rightP y = false → WP X (K .ret ⟨[(2, .lit false)], []⟩) Q := fun hy => hR (by rw [h, all_app]; simp [hy])
      refine WP.use1 hw ?_
      repeat' first | refine WP.iteT (by assumption) ?_ | refine WP.iteF (by assumption) ?_ | refine WP.ite (fun _ => ?_) (fun _ => ?_) | refine WP.idx _ (by omega) (map_get pD (hf.trans h)) ?_ | refine WP.leaf ?_
      all_goals first
        | exact ⟨⟨[(2, .lit false)], []⟩, ⟨⟨.inl rfl, trivial⟩, trivial⟩, hno (by unfold rightP; simp_all <;> omega)⟩
        | exact hgo (by unfold rightP; simp_all <;> omega) _ rfl rfl rfl rfl rfl rfl
theorem qF_loop (hX : LibX X) (l : List TFunc) (hk : l.length ≤ 1000000000) (hD : ∀ f ∈ l, SmF f) (m : TMod) (hm : m.fs = l) (K : Ex → St → Id.T Out) (Q : Out → Prop)
    (hE : l.all rightF = true → WP X (K (.exit 4) ⟨[], []⟩) Q) (hR : l.all rightF = false → WP X (K .ret ⟨[(2, .lit false)], []⟩) Q) :
    ∀ (r p : List TFunc), l = p ++ r → p.all rightF = true → ∀ σ : St, getT σ.t 1 = .box 1 0 → getB σ.b 1 = some (mV m) → getT σ.t 5 = vI p.length → WP X (.loop (lp Tryz.f45 2) σ K) Q
  | r, p, h, hp, σ, g1, gb, g5 => by
    refine WP.round ⟨[(1, .box 1 0), (5, vI p.length)], [(1, mV m)]⟩ ⟨⟨.inl g1.symm, .inl g5.symm, trivial⟩, ⟨WkB.box gb, trivial⟩⟩ ?_
    have hlen : l.length = p.length + r.length := by rw [h]; simp
    cases r with
    | nil =>
      refine WP.iteF (by simp at hlen; simp [hm]; omega) ?_
      refine WP.leaf ⟨⟨[], []⟩, ⟨trivial, trivial⟩, hE (by rw [h]; simpa using hp)⟩
    | cons y r =>
      simp only [List.length_cons] at hlen
      have hy := hD y (by rw [h]; simp)
      have hw := rword (X := X) y.nm hy.nm
      have hb := rstmts_chk (X := X) y.body hy.nb (fun x hx => rstmt_chk hX (SizeOf.sizeOf x + 1) x (Nat.lt_succ_self _) (smSs_mem hy.body hx))
      refine WP.iteT (by simp [hm]; omega) ?_
      refine WP.idx _ (by omega) (map_get _ (hm.trans h)) ?_
      have hno : rightF y = false → WP X (K .ret ⟨[(2, .lit false)], []⟩) Q := fun hy => hR (by rw [h, all_app]; simp [hy])
      refine WP.use1 hw ?_
      repeat' first | refine WP.iteT (by assumption) ?_ | refine WP.iteF (by assumption) ?_ | refine WP.ite (fun _ => ?_) (fun _ => ?_) | refine WP.leaf ?_ | refine WP.use1 hb ?_
      all_goals first
        | exact ⟨⟨[(2, .lit false)], []⟩, ⟨⟨.inl rfl, trivial⟩, trivial⟩, hno (by unfold rightF; simp_all <;> omega)⟩
        | skip
      refine qP_loop y y.ps rfl hy.np hy.ps m p.length _ _ ?_ ?_ y.ps [] rfl rfl _ rfl rfl rfl rfl rfl rfl
      · intro ha
        refine WP.leaf ?_
        refine qF_loop hX l hk hD m hm K Q hE hR r (p ++ [y]) (by rw [h]; simp) (by rw [all_app, hp]; unfold rightF; simp_all) _ rfl rfl ?_
        show vI (IntKind.i64.wrap ((p.length : Int) + 1)) = _
        rw [wrapI (by omega) (by omega)]; simp
      · intro ha
        exact WP.leaf ⟨⟨[(2, .lit false)], []⟩, ⟨⟨.inl rfl, trivial⟩, trivial⟩, hno (by unfold rightF; simp_all)⟩
theorem rright_mod (hX : LibX X) (m : TMod) (hm : SmM m) : Does X 45 [.agg (mD m)] [] (.ret (vB (rightM m)) []) := by
  refine DoesQ.eq (DoesQ.of Tryz.func45 (by kernel_rfl) ?_)
  unfold rightM
  refine qI_loop m.is hm.ni hm.is m rfl _ _ ?_ ?_ m.is [] rfl rfl _ rfl rfl rfl
  · intro h1
    refine qC_loop hX m.cs hm.nc hm.cs m rfl _ _ ?_ ?_ m.cs [] rfl rfl _ rfl rfl rfl
    · intro h2
      refine qF_loop hX m.fs hm.nf hm.fs m rfl _ _ ?_ ?_ m.fs [] rfl rfl _ rfl rfl rfl
      · intro h3; exact WP.leaf (by rw [h1, h2, h3]; rfl)
      · intro h3; exact WP.leaf (by rw [h1, h2, h3]; rfl)
    · intro h2; exact WP.leaf (by rw [h1, h2]; rfl)
  · intro h1; exact WP.leaf (by rw [h1]; rfl)
end Go.Proofs.YtaddhpeainliiaaGreatDoor.Id
/-! ## PrQ -/
namespace Go.Proofs.YtaddhpeainliiaaGreatDoor.Id
open Go
set_option linter.unusedVariables false
set_option linter.unusedSimpArgs false
def all2 {α : Type} (R : α → α → Bool) : List α → List α → Bool
  | [], [] => true
  | x :: r, y :: s => R x y && all2 R r s
  | _, _ => false
theorem all2_len {α : Type} {R : α → α → Bool} : ∀ {l m : List α}, l.length ≠ m.length → all2 R l m = false
  | [], [], h => absurd rfl h
  | x :: r, [], _ => rfl
  | [], _ :: _, _ => rfl
  | x :: r, y :: s, h => by rw [all2, all2_len (l := r) (m := s) (by simpa using h), Bool.and_false]
theorem all2_refl {α : Type} {R : α → α → Bool} : ∀ {l : List α}, (∀ x ∈ l, R x x = true) → all2 R l l = true
  | [], _ => rfl
  | x :: r, h => by rw [all2, h x (by simp), all2_refl (l := r) fun y hy => h y (by simp [hy])]; rfl
def seV (v w : TVal) : Bool := decide (v.t = w.t) && (decide (v.i = w.i) && ((v.b == w.b) && decide (v.s = w.s)))
mutual
def seE : TExpr → TExpr → Bool
  | .mk k _ of nm v op kids, e => decide (k = e.k) && (decide (of = e.of) && (decide (nm = e.nm) && (seV v e.v && (decide (op = e.op) && seEs kids e.kids))))
def seEs : List TExpr → List TExpr → Bool
  | [], m => match m with
    | [] => true
    | _ :: _ => false
  | x :: r, m => match m with
    | [] => false
    | y :: s => seE x y && seEs r s
end
theorem seEs_all : ∀ l m : List TExpr, seEs l m = all2 seE l m
  | [], [] => by rw [seEs]; rfl
  | [], _ :: _ => by rw [seEs]; rfl
  | x :: r, [] => by rw [seEs]; rfl
  | x :: r, y :: s => by rw [seEs, all2, seEs_all r s]
theorem seE_eq (a b : TExpr) : seE a b = (decide (a.k = b.k) && (decide (a.of = b.of) && (decide (a.nm = b.nm) && (seV a.v b.v && (decide (a.op = b.op) && all2 seE a.kids b.kids))))) := by
  obtain ⟨k, z, of, nm, v, op, kids⟩ := a
  rw [seE, seEs_all]; rfl
mutual
def seS : TStmt → TStmt → Bool
  | .mk k _ nm e body els he, s => decide (k = s.k) && (decide (nm = s.nm) && ((he == s.he) && (seE e s.e && (seSs body s.body && seSs els s.els))))
def seSs : List TStmt → List TStmt → Bool
  | [], m => match m with
    | [] => true
    | _ :: _ => false
  | x :: r, m => match m with
    | [] => false
    | y :: s => seS x y && seSs r s
end
theorem seSs_all : ∀ l m : List TStmt, seSs l m = all2 seS l m
  | [], [] => by rw [seSs]; rfl
  | [], _ :: _ => by rw [seSs]; rfl
  | x :: r, [] => by rw [seSs]; rfl
  | x :: r, y :: s => by rw [seSs, all2, seSs_all r s]
theorem seS_eq (a b : TStmt) : seS a b = (decide (a.k = b.k) && (decide (a.nm = b.nm) && ((a.he == b.he) && (seE a.e b.e && (all2 seS a.body b.body && all2 seS a.els b.els))))) := by
  obtain ⟨k, z, nm, e, body, els, he⟩ := a
  rw [seS, seSs_all, seSs_all]; rfl
def seI (x y : TIncl) : Bool := decide (x.p = y.p) && decide (x.nm = y.nm)
def seC (x y : TCons) : Bool := decide (x.nm = y.nm) && ((x.ex == y.ex) && seE x.e y.e)
def seP (x y : TParam) : Bool := decide (x.nm = y.nm) && decide (x.t = y.t)
def seF (x y : TFunc) : Bool := decide (x.nm = y.nm) && ((x.ex == y.ex) && (decide (x.res = y.res) && (all2 seP x.ps y.ps && all2 seS x.body y.body)))
def seM (a b : TMod) : Bool := all2 seI a.is b.is && (all2 seC a.cs b.cs && all2 seF a.fs b.fs)
theorem seV_refl (v : TVal) : seV v v = true := by unfold seV; simp
theorem seE_rf : ∀ (n : Nat) (e : TExpr), SizeOf.sizeOf e < n → seE e e = true
  | 0, _, h => absurd h (by omega)
  | n + 1, e, h => by
    rw [seE_eq, seV_refl, all2_refl fun x hx => seE_rf n x ?_]
    · simp
    · obtain ⟨k, z, of, nm, v, op, kids⟩ := e
      have hx : x ∈ kids := hx
      have := List.sizeOf_lt_of_mem hx
      simp only [TExpr.mk.sizeOf_spec] at h
      omega
theorem seE_refl (e : TExpr) : seE e e = true := seE_rf _ e (Nat.lt_succ_self _)
theorem seS_rf : ∀ (n : Nat) (s : TStmt), SizeOf.sizeOf s < n → seS s s = true
  | 0, _, h => absurd h (by omega)
  | n + 1, .mk k z nm e body els he, h => by
    simp only [TStmt.mk.sizeOf_spec] at h
    rw [seS_eq, seE_refl, all2_refl (l := (TStmt.mk k z nm e body els he).body) fun x hx => seS_rf n x ?_, all2_refl (l := (TStmt.mk k z nm e body els he).els) fun x hx => seS_rf n x ?_]
    · simp
    · have hx : x ∈ els := hx
      have := List.sizeOf_lt_of_mem hx
      omega
    · have hx : x ∈ body := hx
      have := List.sizeOf_lt_of_mem hx
      omega
theorem seS_refl (s : TStmt) : seS s s = true := seS_rf _ s (Nat.lt_succ_self _)
theorem seM_refl (m : TMod) : seM m m = true := by
  unfold seM
  rw [all2_refl (R := seI) fun x _ => by unfold seI; simp, all2_refl (R := seC) fun x _ => by unfold seC; rw [seE_refl]; simp, all2_refl (R := seF) fun x _ => by unfold seF; rw [all2_refl (R := seP) fun x _ => by unfold seP; simp, all2_refl (R := seS) fun x _ => seS_refl x]; simp]
  rfl
end Go.Proofs.YtaddhpeainliiaaGreatDoor.Id
