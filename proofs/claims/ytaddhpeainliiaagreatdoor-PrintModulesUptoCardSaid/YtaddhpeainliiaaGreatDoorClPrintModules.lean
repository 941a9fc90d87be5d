/- For arguments of bulk at most 1,048,576 the law PrintModules answers true, and its arguments read behind the call as they read before.
   Conditions: the arguments (and the package variables that the reading takes) are together of bulk at most 1,048,576 ('Upto'); the listed package-level variables hold what the program's text lays (the card ties them). -/
import Derived.Test.YtaddhpeainliiaaGreatDoorBunPrintModulesi
import Derived.Test.YtaddhpeainliiaaGreatDoorCards
import Derived.Test.YtaddhpeainliiaaGreatDoorTie
import Derived.WalkKit
import Derived.ProofKit
import Derived.OpenShut
import Derived.ShutString
import Derived.ChangeOld
import Derived.Below
import Derived.SizedLaws
import Derived.Deep.DeepHandedRow
import Derived.Lib.LaidTab
/-! ## PrUc -/
namespace Go.Proofs.YtaddhpeainliiaaGreatDoor.Id
open Go
set_option linter.unusedVariables false
set_option linter.unusedSimpArgs false
set_option maxRecDepth 100000
section
variable {X : Given}
theorem most_does (a b : Int) : Does X 46 [vI a, vI b] [] (.ret (vI (max a b)) []) := by
  refine DoesQ.eq (DoesQ.of Tryz.func46 (by kernel_rfl) ?_)
  refine WP.ite (fun h => ?_) (fun h => ?_)
  · have h := of_decide_eq_true h
    exact WP.leaf (by rw [show max a b = a by omega])
  · have h := of_decide_eq_false h
    exact WP.leaf (by rw [show max a b = b by omega])
/-- what an operand asks for -/
def uG (e : TExpr) (i : Nat) (x : TExpr) : Int :=
  if e.k = 3 then upE x + 1 else if e.k = 4 then (if inBr e.k e.op x.k x.op (decide (i = 1)) = true then upE x + 1 else upE x) + 1
  else if inBr e.k e.op x.k x.op (decide (i = 1)) = true then upE x + 1 else upE x
def uK (e : TExpr) : Nat → List TExpr → Int → Int
  | _, [], n => n
  | i, x :: r, n => uK e (i + 1) r (if n < uG e i x then uG e i x else n)
def UpOK (X : Given) (e : TExpr) : Prop := Does X 47 [.agg (eD e)] [] (.ret (vI (upE e)) [])
set_option maxHeartbeats 4000000 in
theorem rup_loop (e : TExpr) (hk : e.kids.length ≤ 1000000000) (hkk : e.k = 3 ∨ (e.k = 4 ∨ e.k = 5 ∧ 1 ≤ e.op ∧ e.op ≤ 14) ∧ e.kids.length ≤ 2) (hU : ∀ x ∈ e.kids, UpOK X x ∧ (0 ≤ upE x ∧ upE x ≤ 4294967296) ∧ (x.k = 5 → 1 ≤ x.op ∧ x.op ≤ 14)) (n9 : Int) (K : Ex → St → Id.T Out) (Q : Out → Prop)
    (hK : WP X (K (.exit 0) ⟨[(1, .box 1 0), (3, vI n9)], [(1, eV e)]⟩) Q) :
    ∀ (r p : List TExpr) (n : Int), e.kids = p ++ r → uK e p.length r n = n9 → ∀ σ : St, getT σ.t 1 = .box 1 0 → getT σ.t 3 = vI n → getT σ.t 4 = vI p.length → getB σ.b 1 = some (eV e) → WP X (.loop (lp Tryz.f47 0) σ K) Q
  | r, p, n, h, hn, σ, g1, g3, g4, gb => by
    refine WP.round ⟨[(1, .box 1 0), (3, vI n), (4, vI p.length)], [(1, eV e)]⟩ ⟨⟨.inl g1.symm, .inl g3.symm, .inl g4.symm, trivial⟩, ⟨WkB.box gb, trivial⟩⟩ ?_
    have hlen : e.kids.length = p.length + r.length := by rw [h]; simp
    cases r with
    | nil =>
      refine WP.iteF (by rw [dsAll_len]; simp at hlen; simp; omega) ?_
      rw [uK] at hn
      subst hn
      exact WP.leaf ⟨⟨[(1, .box 1 0), (3, vI n)], [(1, eV e)]⟩, ⟨⟨.inl rfl, .inl rfl, trivial⟩, ⟨WkB.box rfl, trivial⟩⟩, hK⟩
    | cons y r =>
      simp only [List.length_cons] at hlen
      obtain ⟨hy, ⟨y0, y1⟩, yo⟩ := hU y (by rw [h]; simp)
      rw [uK] at hn
      have hw1 : IntKind.i64.wrap (upE y + 1) = upE y + 1 := wrapI (by omega) (by omega)
      have hw2 : IntKind.i64.wrap (upE y + 1 + 1) = upE y + 1 + 1 := wrapI (by omega) (by omega)
      have hw12 : IntKind.i64.wrap (IntKind.i64.wrap (upE y + 1) + 1) = upE y + 1 + 1 := by rw [hw1, hw2]
      have hnext : ∀ (n' : Int) (σ : St), n' = (if n < uG e p.length y then uG e p.length y else n) → getT σ.t 1 = .box 1 0 → getT σ.t 3 = vI n' → getT σ.t 4 = vI (IntKind.i64.wrap ((p.length : Int) + 1)) → getB σ.b 1 = some (eV e) → WP X (.loop (lp Tryz.f47 0) σ K) Q := fun n' σ hn' g1 g3 g4 gb => by
        refine rup_loop e hk hkk hU n9 K Q hK r (p ++ [y]) n' (by rw [h]; simp) ?_ σ g1 g3 ?_ gb
        · rw [hn', List.length_append]; exact hn
        · rw [g4, wrapI (by omega) (by omega)]; simp
      have fin : ∀ (v : Int), v = uG e p.length y → ∀ σ : St, getT σ.t 1 = .box 1 0 → getT σ.t 3 = vI (if n < v then v else n) → getT σ.t 4 = vI (IntKind.i64.wrap ((p.length : Int) + 1)) → getB σ.b 1 = some (eV e) → WP X (.loop (lp Tryz.f47 0) σ K) Q := fun v hv σ g1 g3 g4 gb => hnext _ σ (by rw [hv]) g1 g3 g4 gb
      refine WP.iteT (by rw [dsAll_len]; simp; omega) ?_
      refine WP.idx _ (by omega) (dsAll_get h) ?_
      refine WP.use1 hy ?_
      rcases hkk with h3 | ⟨h45, hle⟩
      · have n4 : ¬ e.k = 4 := by omega
        have hG : uG e p.length y = upE y + 1 := by unfold uG; rw [if_pos h3]
        repeat first | refine WP.iteT (decide_eq_true h3) ?_ | refine WP.iteF (decide_eq_false n4) ?_
        refine WP.ite (fun hc => ?_) (fun hc => ?_)
        · have hc := of_decide_eq_true hc
          rw [hw1] at hc
          exact WP.leaf (fin _ hG.symm _ rfl (by rw [if_pos hc]; exact congrArg vI hw1) rfl rfl)
        · have hc := of_decide_eq_false hc
          rw [hw1] at hc
          exact WP.leaf (fin _ hG.symm _ rfl (by rw [if_neg hc]; rfl) rfl rfl)
      · have n3 : ¬ e.k = 3 := by omega
        have hi : (p.length : Int) = 0 ∨ (p.length : Int) = 1 := by omega
        have hb := rbr_does (X := X) e y p.length hi (dsAll_get h) h45 yo
        have hbd : decide ((p.length : Int) = 1) = decide (p.length = 1) := by
          rw [Bool.eq_iff_iff]; simp; omega
        rw [hbd] at hb
        by_cases h4 : e.k = 4
        · repeat first | refine WP.iteT (decide_eq_true h4) ?_ | refine WP.iteF (decide_eq_false n3) ?_
          refine WP.use1 hb ?_
          have hG : uG e p.length y = (if inBr e.k e.op y.k y.op (decide (p.length = 1)) = true then upE y + 1 else upE y) + 1 := by unfold uG; rw [if_neg n3, if_pos h4]
          cases hbr : inBr e.k e.op y.k y.op (decide (p.length = 1)) with
          | true =>
            rw [hbr, if_pos rfl] at hG
            repeat first | refine WP.iteT (decide_eq_true h4) ?_ | refine WP.iteF (decide_eq_false n3) ?_ | refine WP.iteT rfl ?_
            refine WP.ite (fun hc => ?_) (fun hc => ?_)
            · have hc := of_decide_eq_true hc
              rw [hw1, hw2] at hc
              exact WP.leaf (fin _ hG.symm _ rfl (by rw [if_pos hc]; exact congrArg vI hw12) rfl rfl)
            · have hc := of_decide_eq_false hc
              rw [hw1, hw2] at hc
              exact WP.leaf (fin _ hG.symm _ rfl (by rw [if_neg hc]; rfl) rfl rfl)
          | false =>
            rw [hbr, if_neg (by decide)] at hG
            repeat first | refine WP.iteT (decide_eq_true h4) ?_ | refine WP.iteF (decide_eq_false n3) ?_ | refine WP.iteF rfl ?_
            refine WP.ite (fun hc => ?_) (fun hc => ?_)
            · have hc := of_decide_eq_true hc
              rw [hw1] at hc
              exact WP.leaf (fin _ hG.symm _ rfl (by rw [if_pos hc]; exact congrArg vI hw1) rfl rfl)
            · have hc := of_decide_eq_false hc
              rw [hw1] at hc
              exact WP.leaf (fin _ hG.symm _ rfl (by rw [if_neg hc]; rfl) rfl rfl)
        · have h5 : e.k = 5 := by omega
          repeat first | refine WP.iteT (decide_eq_true h5) ?_ | refine WP.iteF (decide_eq_false n3) ?_ | refine WP.iteF (decide_eq_false h4) ?_
          refine WP.use1 hb ?_
          have hG : uG e p.length y = if inBr e.k e.op y.k y.op (decide (p.length = 1)) = true then upE y + 1 else upE y := by unfold uG; rw [if_neg n3, if_neg h4]
          cases hbr : inBr e.k e.op y.k y.op (decide (p.length = 1)) with
          | true =>
            rw [hbr, if_pos rfl] at hG
            repeat first | refine WP.iteT (decide_eq_true h5) ?_ | refine WP.iteF (decide_eq_false n3) ?_ | refine WP.iteF (decide_eq_false h4) ?_ | refine WP.iteT rfl ?_
            refine WP.ite (fun hc => ?_) (fun hc => ?_)
            · have hc := of_decide_eq_true hc
              rw [hw1] at hc
              exact WP.leaf (fin _ hG.symm _ rfl (by rw [if_pos hc]; exact congrArg vI hw1) rfl rfl)
            · have hc := of_decide_eq_false hc
              rw [hw1] at hc
              exact WP.leaf (fin _ hG.symm _ rfl (by rw [if_neg hc]; rfl) rfl rfl)
          | false =>
            rw [hbr, if_neg (by decide)] at hG
            repeat first | refine WP.iteT (decide_eq_true h5) ?_ | refine WP.iteF (decide_eq_false n3) ?_ | refine WP.iteF (decide_eq_false h4) ?_ | refine WP.iteF rfl ?_
            refine WP.ite (fun hc => ?_) (fun hc => ?_)
            · have hc := of_decide_eq_true hc
              exact WP.leaf (fin _ hG.symm _ rfl (by rw [if_pos hc]; rfl) rfl rfl)
            · have hc := of_decide_eq_false hc
              exact WP.leaf (fin _ hG.symm _ rfl (by rw [if_neg hc]; rfl) rfl rfl)
theorem ifmax (n g : Int) : (if n < g then g else n) = max n g := by split <;> omega
theorem uK3 (e : TExpr) (h3 : e.k = 3) : ∀ (r : List TExpr) (i : Nat) (n : Int), 0 ≤ n → (∀ x ∈ r, 0 ≤ upE x) → uK e i r n = max n (if r = [] then n else max 0 (uSeq (upEs r)) + 1)
  | [], i, n, hn, _ => by rw [uK, if_pos rfl]; omega
  | x :: r, i, n, hn, hu => by
    have hx := hu x (by simp)
    have hG : uG e i x = upE x + 1 := by unfold uG; rw [if_pos h3]
    have ih := uK3 e h3 r (i + 1) (max n (upE x + 1)) (by omega) (fun y hy => hu y (by simp [hy]))
    rw [uK, ifmax, hG, ih, if_neg (by simp : ¬ x :: r = []), upEs, uSeq]
    cases r with
    | nil =>
      rw [if_pos rfl, upEs, uSeq]
      omega
    | cons y r =>
      rw [if_neg (by simp : ¬ y :: r = [])]
      have := uSeq_ge (upEs (y :: r))
      omega
set_option maxHeartbeats 4000000 in
theorem rup_w : ∀ (n : Nat) (e : TExpr), SizeOf.sizeOf e < n → rightE e = true → smE e → szE e ≤ 1073741824 → UpOK X e
  | 0, e, h, _, _, _ => absurd h (Nat.not_lt_zero _)
  | n + 1, .mk k a of nm v op kids, hn, hr, hs, hz => by
    rw [rightE, Bool.and_eq_true] at hr
    rw [smE] at hs
    rw [szE] at hz
    obtain ⟨hrk, hr⟩ := hr
    have hU : ∀ x ∈ kids, UpOK X x ∧ (0 ≤ upE x ∧ upE x ≤ 4294967296) ∧ (x.k = 5 → 1 ≤ x.op ∧ x.op ≤ 14) := fun x hx => by
      have h1 := szEs_mem hx
      have h2 := upE_le x
      exact ⟨rup_w n x (by have := List.sizeOf_lt_of_mem hx; simp at hn; omega) (rightEs_mem hrk hx) (smEs_mem hs.2.2.2 hx) (by omega), ⟨up_ge lit_facts (rightEs_mem hrk hx), by omega⟩, fun h => kids_op (rightEs_mem hrk hx) h⟩
    have hk := hs.2.2.1
    unfold rightN at hr
    unfold UpOK
    rw [upE]
    unfold upN
    by_cases k1 : k = 1
    · subst k1
      rw [if_pos rfl] at hr
      simp only [Bool.and_eq_true, decide_eq_true_eq] at hr
      obtain rfl : kids = [] := List.length_eq_zero_iff.1 hr.2.2.2
      rw [if_neg (by decide), if_neg (by decide), if_neg (by decide)]
      refine DoesQ.eq (DoesQ.of Tryz.func47 (by kernel_rfl) ?_)
      refine WP.round ⟨[(1, .box 1 0), (3, vI 0), (4, vI 0)], [(1, eV (.mk 1 a of nm v op []))]⟩ ⟨⟨.inl rfl, .inl rfl, .inl rfl, trivial⟩, ⟨WkB.box rfl, trivial⟩⟩ ?_
      refine WP.iteF rfl ?_
      refine WP.leaf ⟨⟨[(1, .box 1 0), (3, vI 0)], [(1, eV (.mk 1 a of nm v op []))]⟩, ⟨⟨.inl rfl, .inl rfl, trivial⟩, ⟨WkB.box rfl, trivial⟩⟩, ?_⟩
      repeat refine WP.iteF rfl ?_
      exact WP.leaf rfl
    by_cases k2 : k = 2
    · subst k2
      rw [if_neg (by decide), if_pos rfl] at hr
      simp only [Bool.and_eq_true, decide_eq_true_eq] at hr
      obtain rfl : kids = [] := List.length_eq_zero_iff.1 hr.2.2.2
      rw [if_neg (by decide), if_neg (by decide), if_neg (by decide)]
      refine DoesQ.eq (DoesQ.of Tryz.func47 (by kernel_rfl) ?_)
      refine WP.round ⟨[(1, .box 1 0), (3, vI 0), (4, vI 0)], [(1, eV (.mk 2 a of nm v op []))]⟩ ⟨⟨.inl rfl, .inl rfl, .inl rfl, trivial⟩, ⟨WkB.box rfl, trivial⟩⟩ ?_
      refine WP.iteF rfl ?_
      refine WP.leaf ⟨⟨[(1, .box 1 0), (3, vI 0)], [(1, eV (.mk 2 a of nm v op []))]⟩, ⟨⟨.inl rfl, .inl rfl, trivial⟩, ⟨WkB.box rfl, trivial⟩⟩, ?_⟩
      repeat refine WP.iteF rfl ?_
      exact WP.leaf rfl
    by_cases k3 : k = 3
    · subst k3
      rw [if_pos rfl]
      have hu := uK3 (.mk 3 a of nm v op kids) rfl kids 0 0 (by omega) (fun x hx => (hU x hx).2.1.1)
      refine DoesQ.eq (DoesQ.of Tryz.func47 (by kernel_rfl) ?_)
      refine rup_loop (.mk 3 a of nm v op kids) hk (.inl rfl) hU _ _ _ ?_ kids [] 0 rfl hu _ rfl rfl rfl rfl
      repeat refine WP.iteT rfl ?_
      by_cases hkk : kids = []
      · subst hkk
        rw [if_pos rfl]
        refine WP.iteT (by decide) ?_
        exact WP.leaf rfl
      · rw [if_neg hkk]
        refine WP.iteF (decide_eq_false (by omega)) ?_
        exact WP.leaf (congrArg (fun z => Out.ret (vI z) []) (by omega))
    by_cases k4 : k = 4
    · subst k4
      rw [if_neg (by decide), if_neg (by decide), if_neg (by decide), if_pos rfl] at hr
      simp only [Bool.and_eq_true, decide_eq_true_eq] at hr
      obtain ⟨_, _, _, _, h1⟩ := hr
      match kids, h1, hU, hk with
      | [x], _, hU, hk =>
        rw [if_neg (by decide), if_pos rfl, upEs, upEs]
        have hx := (hU x (by simp)).2.1.1
        have hG : uG (.mk 4 a of nm v op [x]) 0 x = (if inBr 4 op x.k x.op false = true then upE x + 1 else upE x) + 1 := rfl
        have hp : 0 < uG (.mk 4 a of nm v op [x]) 0 x := by rw [hG]; split <;> omega
        have hu : uK (.mk 4 a of nm v op [x]) 0 [x] 0 = (if inBr 4 op x.k x.op false = true then upE x + 1 else upE x) + 1 := by rw [uK, uK, if_pos hp, hG]
        refine DoesQ.eq (DoesQ.of Tryz.func47 (by kernel_rfl) ?_)
        refine rup_loop (.mk 4 a of nm v op [x]) hk (.inr ⟨.inl rfl, by show 1 ≤ 2; omega⟩) hU _ _ _ ?_ [x] [] 0 rfl hu _ rfl rfl rfl rfl
        repeat refine WP.iteF rfl ?_
        exact WP.leaf rfl
    by_cases k5 : k = 5
    · subst k5
      rw [if_neg (by decide), if_neg (by decide), if_neg (by decide), if_neg (by decide), if_pos rfl] at hr
      simp only [Bool.and_eq_true, decide_eq_true_eq] at hr
      obtain ⟨_, _, o1, o2, h1⟩ := hr
      match kids, h1, hU, hk with
      | [x, y], _, hU, hk =>
        rw [if_neg (by decide), if_neg (by decide), if_pos rfl, upEs, upEs, upEs]
        have hx := (hU x (by simp)).2.1.1
        have hy := (hU y (by simp)).2.1.1
        have hG : uG (.mk 5 a of nm v op [x, y]) 0 x = (if inBr 5 op x.k x.op false = true then upE x + 1 else upE x) := rfl
        have hG2 : uG (.mk 5 a of nm v op [x, y]) 1 y = (if inBr 5 op y.k y.op true = true then upE y + 1 else upE y) := rfl
        have p1 : 0 ≤ uG (.mk 5 a of nm v op [x, y]) 0 x := by rw [hG]; split <;> omega
        have p2 : 0 ≤ uG (.mk 5 a of nm v op [x, y]) 1 y := by rw [hG2]; split <;> omega
        have hu : uK (.mk 5 a of nm v op [x, y]) 0 [x, y] 0 = max (if inBr 5 op x.k x.op false = true then upE x + 1 else upE x) (if inBr 5 op y.k y.op true = true then upE y + 1 else upE y) := by
          rw [uK, uK, uK, ifmax, ifmax, ← hG, ← hG2]
          generalize uG (.mk 5 a of nm v op [x, y]) 0 x = A at p1 ⊢
          show max (max 0 A) (uG (.mk 5 a of nm v op [x, y]) 1 y) = _
          generalize uG (.mk 5 a of nm v op [x, y]) 1 y = B at p2 ⊢
          omega
        refine DoesQ.eq (DoesQ.of Tryz.func47 (by kernel_rfl) ?_)
        refine rup_loop (.mk 5 a of nm v op [x, y]) hk (.inr ⟨.inr ⟨rfl, o1, o2⟩, by show 2 ≤ 2; omega⟩) hU _ _ _ ?_ [x, y] [] 0 rfl hu _ rfl rfl rfl rfl
        repeat refine WP.iteF rfl ?_
        exact WP.leaf rfl
    rw [if_neg k1, if_neg k2, if_neg k3, if_neg k4, if_neg k5] at hr
    cases hr
theorem rup_ok {e : TExpr} (hr : rightE e = true) (hs : smE e) (hz : szE e ≤ 1073741824) : UpOK X e := rup_w _ e (Nat.lt_succ_self _) hr hs hz
end
end Go.Proofs.YtaddhpeainliiaaGreatDoor.Id
/-! ## PrUd -/
namespace Go.Proofs.YtaddhpeainliiaaGreatDoor.Id
open Go
set_option linter.unusedVariables false
set_option linter.unusedSimpArgs false
set_option maxRecDepth 100000
section
variable {X : Given}
theorem rchained_does (s : TStmt) : Does X 69 [.agg (sD s)] [] (.ret (vB (chained (s.els.map TStmt.k))) []) := by
  obtain ⟨k, a, nm, e, body, els, he⟩ := s
  refine DoesQ.eq (DoesQ.of Tryz.func69 (by kernel_rfl) ?_)
  match els with
  | [] =>
    refine WP.iteF (by show decide (((ssAll []).length : Int) = 1) = false; rfl) ?_
    repeat refine WP.iteF (by show decide (((ssAll []).length : Int) = 1) = false; rfl) ?_
    exact WP.leaf rfl
  | [x] =>
    repeat refine WP.iteT (by show decide (((ssAll [x]).length : Int) = 1) = true; rw [ssAll1]; rfl) ?_
    refine WP.idx (sD x) (by decide) (by show (ssAll [x])[Int.toNat 0]? = some (sD x); rw [ssAll1]; rfl) ?_
    repeat refine WP.iteT (by show decide (((ssAll [x]).length : Int) = 1) = true; rw [ssAll1]; rfl) ?_
    exact WP.leaf rfl
  | x :: y :: r =>
    have h1 : ¬ ((ssAll (x :: y :: r)).length : Int) = 1 := by rw [ssAll_len]; simp; omega
    refine WP.iteF (decide_eq_false h1) ?_
    repeat refine WP.iteF (decide_eq_false h1) ?_
    exact WP.leaf rfl
def UpsOK (X : Given) (l : List TStmt) : Prop := Does X 48 [.d (.sl 16 (ssAll l))] [] (.ret (vI (uSeq (upSs l))) [])
structure StUp (X : Given) (s : TStmt) : Prop where
  e : UpOK X s.e
  e0 : 0 ≤ upE s.e ∧ upE s.e ≤ 4294967296
  b : UpsOK X s.body
  b0 : uSeq (upSs s.body) ≤ 4294967296
  l : UpsOK X s.els
  l0 : uSeq (upSs s.els) ≤ 4294967296
theorem upS_eq (s : TStmt) : upS s = upSN s.k (upE s.e) (upSs s.body) (chained (s.els.map TStmt.k)) (upSs s.els) s.he := by
  obtain ⟨k, a, nm, e, body, els, he⟩ := s
  rw [upS]; rfl
set_option maxHeartbeats 4000000 in
theorem rups_loop (l : List TStmt) (hk : l.length ≤ 1000000000) (hS : ∀ x ∈ l, StUp X x) (n9 : Int) (K : Ex → St → Id.T Out) (Q : Out → Prop)
    (hK : WP X (K (.exit 0) ⟨[(3, vI n9)], []⟩) Q) :
    ∀ (r p : List TStmt) (n : Int), l = p ++ r → 0 ≤ n → max n (uSeq (upSs r)) = n9 → ∀ σ : St, getT σ.t 0 = .d (.sl 16 (ssAll l)) → getT σ.t 3 = vI n → getT σ.t 4 = vI p.length → WP X (.loop (lp Tryz.f48 0) σ K) Q
  | r, p, n, h, hn0, hn, σ, g0, g3, g4 => by
    refine WP.round ⟨[(0, .d (.sl 16 (ssAll l))), (3, vI n), (4, vI p.length)], []⟩ ⟨⟨.inl g0.symm, .inl g3.symm, .inl g4.symm, trivial⟩, trivial⟩ ?_
    have hlen : l.length = p.length + r.length := by rw [h]; simp
    cases r with
    | nil =>
      refine WP.iteF (by rw [ssAll_len]; simp at hlen; simp; omega) ?_
      rw [upSs, uSeq] at hn
      have hn : n = n9 := by omega
      subst hn
      exact WP.leaf ⟨⟨[(3, vI n)], []⟩, ⟨⟨.inl rfl, trivial⟩, trivial⟩, hK⟩
    | cons y r =>
      simp only [List.length_cons] at hlen
      obtain ⟨he, ⟨he0, he1⟩, hb, hb1, hl, hl1⟩ := hS y (by rw [h]; simp)
      have hb0 := uSeq_ge (upSs y.body)
      have hl0 := uSeq_ge (upSs y.els)
      have hch := rchained_does (X := X) y
      have hu := upS_eq y
      unfold upSN at hu
      rw [upSs, uSeq] at hn
      have hwb : IntKind.i64.wrap (1 + uSeq (upSs y.body)) = 1 + uSeq (upSs y.body) := wrapI (by omega) (by omega)
      have hwl : IntKind.i64.wrap (1 + uSeq (upSs y.els)) = 1 + uSeq (upSs y.els) := wrapI (by omega) (by omega)
      have hg := ssAll_get h
      have h0 : (0 : Int) ≤ (p.length : Int) := by omega
      have hnext : ∀ (v : Int) (σ : St), v = max n (upS y) → getT σ.t 0 = .d (.sl 16 (ssAll l)) → getT σ.t 3 = vI v → getT σ.t 4 = vI (IntKind.i64.wrap ((p.length : Int) + 1)) → WP X (.loop (lp Tryz.f48 0) σ K) Q := fun v σ hv g0 g3 g4 => by
        refine rups_loop l hk hS n9 K Q hK r (p ++ [y]) v (by rw [h]; simp) (by omega) (by rw [hv]; omega) σ g0 g3 ?_
        rw [g4, wrapI (by omega) (by omega)]; simp
      refine WP.iteT (by rw [ssAll_len]; simp; omega) ?_
      refine WP.idx _ h0 hg ?_
      refine WP.use1 he ?_
      refine WP.use1 (most_does n (upE y.e)) ?_
      refine WP.idx _ h0 hg ?_
      have tail : ∀ (A : Int), A = max (max n (upE y.e)) (if y.k = 3 ∨ y.k = 4 then 1 + uSeq (upSs y.body) else 0) → (y.he = false → A = max n (upS y)) ∧ (y.he = true → chained (y.els.map TStmt.k) = true → max A (uSeq (upSs y.els)) = max n (upS y)) ∧ (y.he = true → chained (y.els.map TStmt.k) = false → max A (IntKind.i64.wrap (1 + uSeq (upSs y.els))) = max n (upS y)) := fun A hA => by
        have B0 : 0 ≤ (if y.k = 3 ∨ y.k = 4 then 1 + uSeq (upSs y.body) else 0) := by split <;> omega
        rw [hwl, hu]
        generalize (if y.k = 3 ∨ y.k = 4 then 1 + uSeq (upSs y.body) else 0) = B at hA B0 ⊢
        refine ⟨fun e1 => ?_, fun e1 e2 => ?_, fun e1 e2 => ?_⟩
        · rw [e1, if_neg (by decide)]
          omega
        · rw [e1, e2, if_pos rfl, if_pos rfl]; omega
        · rw [e1, e2, if_pos rfl, if_neg (by decide)]; omega
      by_cases h3 : y.k = 3
      · have hA := tail (max (max n (upE y.e)) (IntKind.i64.wrap (1 + uSeq (upSs y.body)))) (by rw [hwb, if_pos (.inl h3)])
        repeat refine WP.iteT (decide_eq_true h3) ?_
        refine WP.idx _ h0 hg ?_
        refine WP.use1 hb ?_
        refine WP.use1 (most_does _ _) ?_
        refine WP.idx _ h0 hg ?_
        cases hhe : y.he with
        | false =>
          refine WP.iteF hhe ?_
          exact WP.leaf (hnext _ _ (hA.1 hhe) rfl rfl rfl)
        | true =>
          refine WP.iteT hhe ?_
          refine WP.idx _ h0 hg ?_
          refine WP.use1 hch ?_
          cases hc : chained (y.els.map TStmt.k) with
          | true =>
            refine WP.iteT rfl ?_
            refine WP.idx _ h0 hg ?_
            refine WP.use1 hl ?_
            refine WP.use1 (most_does _ _) ?_
            exact WP.leaf (hnext _ _ (hA.2.1 hhe hc) rfl rfl rfl)
          | false =>
            refine WP.iteF rfl ?_
            refine WP.idx _ h0 hg ?_
            refine WP.use1 hl ?_
            refine WP.use1 (most_does _ _) ?_
            exact WP.leaf (hnext _ _ (hA.2.2 hhe hc) rfl rfl rfl)
      · repeat first | refine WP.iteF (decide_eq_false h3) ?_
        refine WP.idx _ h0 hg ?_
        repeat first | refine WP.iteF (decide_eq_false h3) ?_
        by_cases h4 : y.k = 4
        · have hA := tail (max (max n (upE y.e)) (IntKind.i64.wrap (1 + uSeq (upSs y.body)))) (by rw [hwb, if_pos (.inr h4)])
          repeat refine WP.iteT (decide_eq_true h4) ?_
          refine WP.idx _ h0 hg ?_
          refine WP.use1 hb ?_
          refine WP.use1 (most_does _ _) ?_
          refine WP.idx _ h0 hg ?_
          cases hhe : y.he with
          | false =>
            refine WP.iteF hhe ?_
            exact WP.leaf (hnext _ _ (hA.1 hhe) rfl rfl rfl)
          | true =>
            refine WP.iteT hhe ?_
            refine WP.idx _ h0 hg ?_
            refine WP.use1 hch ?_
            cases hc : chained (y.els.map TStmt.k) with
            | true =>
              refine WP.iteT rfl ?_
              refine WP.idx _ h0 hg ?_
              refine WP.use1 hl ?_
              refine WP.use1 (most_does _ _) ?_
              exact WP.leaf (hnext _ _ (hA.2.1 hhe hc) rfl rfl rfl)
            | false =>
              refine WP.iteF rfl ?_
              refine WP.idx _ h0 hg ?_
              refine WP.use1 hl ?_
              refine WP.use1 (most_does _ _) ?_
              exact WP.leaf (hnext _ _ (hA.2.2 hhe hc) rfl rfl rfl)
        · have hA := tail (max n (upE y.e)) (by rw [if_neg (fun h => h.elim h3 h4)]; omega)
          repeat refine WP.iteF (decide_eq_false h4) ?_
          refine WP.idx _ h0 hg ?_
          cases hhe : y.he with
          | false =>
            refine WP.iteF hhe ?_
            exact WP.leaf (hnext _ _ (hA.1 hhe) rfl rfl rfl)
          | true =>
            refine WP.iteT hhe ?_
            refine WP.idx _ h0 hg ?_
            refine WP.use1 hch ?_
            cases hc : chained (y.els.map TStmt.k) with
            | true =>
              refine WP.iteT rfl ?_
              refine WP.idx _ h0 hg ?_
              refine WP.use1 hl ?_
              refine WP.use1 (most_does _ _) ?_
              exact WP.leaf (hnext _ _ (hA.2.1 hhe hc) rfl rfl rfl)
            | false =>
              refine WP.iteF rfl ?_
              refine WP.idx _ h0 hg ?_
              refine WP.use1 hl ?_
              refine WP.use1 (most_does _ _) ?_
              exact WP.leaf (hnext _ _ (hA.2.2 hhe hc) rfl rfl rfl)
theorem upSs_le (l : List TStmt) : uSeq (upSs l) ≤ 2 * szSs l := uSeq_le (by omega) fun y hy => by
  rw [upSs_map] at hy
  obtain ⟨x, hx, rfl⟩ := List.mem_map.1 hy
  have h1 := upS_le x
  have h2 : szS x ≤ szSs l := by rw [szSs_map]; exact sumN_mem szS hx
  omega
theorem up_none {e : TExpr} (h : noneE e = true) : UpOK X e := by
  obtain ⟨k, a, of, nm, v, op, kids⟩ := e
  unfold noneE noneN at h
  simp only [Bool.and_eq_true, decide_eq_true_eq] at h
  obtain ⟨h1, _, _, _, _, h6⟩ := h
  have h1 : k = 0 := h1
  subst h1
  obtain rfl : kids = [] := List.length_eq_zero_iff.1 h6
  unfold UpOK
  rw [upE_none rfl]
  refine DoesQ.eq (DoesQ.of Tryz.func47 (by kernel_rfl) ?_)
  refine WP.round ⟨[(1, .box 1 0), (3, vI 0), (4, vI 0)], [(1, eV (.mk 0 a of nm v op []))]⟩ ⟨⟨.inl rfl, .inl rfl, .inl rfl, trivial⟩, ⟨WkB.box rfl, trivial⟩⟩ ?_
  refine WP.iteF rfl ?_
  refine WP.leaf ⟨⟨[(1, .box 1 0), (3, vI 0)], [(1, eV (.mk 0 a of nm v op []))]⟩, ⟨⟨.inl rfl, .inl rfl, trivial⟩, ⟨WkB.box rfl, trivial⟩⟩, ?_⟩
  repeat refine WP.iteF rfl ?_
  exact WP.leaf rfl
/-- a right statement's expression is right, or there is none -/
theorem stE {k : Int} {nm : ByteArray} {e : TExpr} {nb : Nat} {he : Bool} (h : rightSN k nm e nb he = true) : rightE e = true ∨ noneE e = true := by
  unfold rightSN at h
  repeat' split at h
  all_goals first
    | (simp only [Bool.and_eq_true, Bool.or_eq_true] at h; first | exact .inl h.1 | exact h.1)
    | cases h
theorem rups_w : ∀ (n : Nat) (l : List TStmt), SizeOf.sizeOf l < n → rightSs l = true → smSs l → l.length ≤ 1000000000 → szSs l ≤ 1073741824 → UpsOK X l
  | 0, l, h, _, _, _, _ => absurd h (Nat.not_lt_zero _)
  | n + 1, l, hn, hr, hs, hk, hz => by
    have hS : ∀ x ∈ l, StUp X x := fun x hx => by
      have h1 := List.sizeOf_lt_of_mem hx
      have h2 := smSs_mem hs hx
      have h3 := rightSs_mem hr hx
      have h4 : szS x ≤ szSs l := by rw [szSs_map]; exact sumN_mem szS hx
      obtain ⟨k, a, nm, e, body, els, he⟩ := x
      rw [smS] at h2
      rw [rightS, Bool.and_eq_true, Bool.and_eq_true, Bool.and_eq_true] at h3
      rw [szS] at h4
      simp only [TStmt.mk.sizeOf_spec] at h1
      have u1 := upE_le e
      have u2 := upSs_le body
      have u3 := upSs_le els
      have hE := stE h3.2.2.2
      refine ⟨?_, ⟨?_, by show upE e ≤ _; omega⟩, rups_w n body (by omega) h3.1 h2.2.2.2.2.1 h2.2.2.1 (by omega), by show uSeq (upSs body) ≤ _; omega, rups_w n els (by omega) h3.2.1 h2.2.2.2.2.2 h2.2.2.2.1 (by omega), by show uSeq (upSs els) ≤ _; omega⟩
      · rcases hE with hE | hE
        · exact rup_ok hE h2.2.1 (by show szE e ≤ _; omega)
        · exact up_none hE
      · show 0 ≤ upE e
        rcases hE with hE | hE
        · exact up_ge lit_facts hE
        · rw [upE_none (noneE_k hE)]; omega
    have hu := uSeq_ge (upSs l)
    refine DoesQ.eq (DoesQ.of Tryz.func48 (by kernel_rfl) ?_)
    refine rups_loop l hk hS _ _ _ ?_ l [] 0 rfl (by omega) (show max 0 (uSeq (upSs l)) = uSeq (upSs l) by omega) _ rfl rfl rfl
    exact WP.leaf rfl
theorem rups_ok {l : List TStmt} (hr : rightSs l = true) (hs : smSs l) (hk : l.length ≤ 1000000000) (hz : szSs l ≤ 1073741824) : UpsOK X l := rups_w _ l (Nat.lt_succ_self _) hr hs hk hz
set_option maxHeartbeats 4000000 in
theorem rlev_c (m : TMod) (hk : m.cs.length ≤ 1000000000) (hU : ∀ c ∈ m.cs, UpOK X c.e) (n9 : Int) (K : Ex → St → Id.T Out) (Q : Out → Prop)
    (hK : WP X (K (.exit 0) ⟨[(1, .box 1 0), (3, vI n9)], [(1, mV m)]⟩) Q) :
    ∀ (r p : List TCons) (n : Int), m.cs = p ++ r → max n (uSeq (r.map fun c => upE c.e)) = n9 → 0 ≤ n → ∀ σ : St, getT σ.t 1 = .box 1 0 → getT σ.t 3 = vI n → getT σ.t 4 = vI p.length → getB σ.b 1 = some (mV m) → WP X (.loop (lp Tryz.f21 0) σ K) Q
  | r, p, n, h, hn, h0n, σ, g1, g3, g4, gb => by
    refine WP.round ⟨[(1, .box 1 0), (3, vI n), (4, vI p.length)], [(1, mV m)]⟩ ⟨⟨.inl g1.symm, .inl g3.symm, .inl g4.symm, trivial⟩, ⟨WkB.box gb, trivial⟩⟩ ?_
    have hlen : m.cs.length = p.length + r.length := by rw [h]; simp
    have hsl : (csD m.cs).length = m.cs.length := by simp
    cases r with
    | nil =>
      refine WP.iteF (by rw [hsl]; simp at hlen; simp; omega) ?_
      rw [List.map_nil, uSeq] at hn
      have hn : n = n9 := by omega
      subst hn
      exact WP.leaf ⟨⟨[(1, .box 1 0), (3, vI n)], [(1, mV m)]⟩, ⟨⟨.inl rfl, .inl rfl, trivial⟩, ⟨WkB.box rfl, trivial⟩⟩, hK⟩
    | cons y r =>
      simp only [List.length_cons] at hlen
      rw [List.map_cons, uSeq] at hn
      refine WP.iteT (by rw [hsl]; simp; omega) ?_
      refine WP.idx _ (by omega) (map_get (fun x => cD x) h) ?_
      refine WP.use1 (hU y (by rw [h]; simp)) ?_
      refine WP.use1 (most_does n (upE y.e)) ?_
      refine WP.leaf ?_
      refine rlev_c m hk hU n9 K Q hK r (p ++ [y]) (max n (upE y.e)) (by rw [h]; simp) (by omega) (by omega) _ rfl rfl ?_ rfl
      show vI (IntKind.i64.wrap ((p.length : Int) + 1)) = _
      rw [wrapI (by omega) (by omega)]; simp
set_option maxHeartbeats 4000000 in
theorem rlev_f (m : TMod) (hk : m.fs.length ≤ 1000000000) (hU : ∀ f ∈ m.fs, UpsOK X f.body ∧ uSeq (upSs f.body) ≤ 4294967296) (n9 : Int) (K : Ex → St → Id.T Out) (Q : Out → Prop)
    (hK : WP X (K (.exit 2) ⟨[(3, vI n9)], []⟩) Q) :
    ∀ (r p : List TFunc) (n : Int), m.fs = p ++ r → max n (uSeq (r.map fun f => 1 + uSeq (upSs f.body))) = n9 → 0 ≤ n → ∀ σ : St, getT σ.t 1 = .box 1 0 → getT σ.t 3 = vI n → getT σ.t 5 = vI p.length → getB σ.b 1 = some (mV m) → WP X (.loop (lp Tryz.f21 1) σ K) Q
  | r, p, n, h, hn, h0n, σ, g1, g3, g4, gb => by
    refine WP.round ⟨[(1, .box 1 0), (3, vI n), (5, vI p.length)], [(1, mV m)]⟩ ⟨⟨.inl g1.symm, .inl g3.symm, .inl g4.symm, trivial⟩, ⟨WkB.box gb, trivial⟩⟩ ?_
    have hlen : m.fs.length = p.length + r.length := by rw [h]; simp
    have hsl : (fsD m.fs).length = m.fs.length := by simp
    cases r with
    | nil =>
      refine WP.iteF (by rw [hsl]; simp at hlen; simp; omega) ?_
      rw [List.map_nil, uSeq] at hn
      have hn : n = n9 := by omega
      subst hn
      exact WP.leaf ⟨⟨[(3, vI n)], []⟩, ⟨⟨.inl rfl, trivial⟩, trivial⟩, hK⟩
    | cons y r =>
      simp only [List.length_cons] at hlen
      obtain ⟨hy, hy1⟩ := hU y (by rw [h]; simp)
      have hy0 := uSeq_ge (upSs y.body)
      have hw : IntKind.i64.wrap (1 + uSeq (upSs y.body)) = 1 + uSeq (upSs y.body) := wrapI (by omega) (by omega)
      rw [List.map_cons, uSeq] at hn
      refine WP.iteT (by rw [hsl]; simp; omega) ?_
      refine WP.idx _ (by omega) (map_get (fun x => fD x) h) ?_
      refine WP.use1 hy ?_
      refine WP.use1 (most_does n (IntKind.i64.wrap (1 + uSeq (upSs y.body)))) ?_
      refine WP.leaf ?_
      refine rlev_f m hk hU n9 K Q hK r (p ++ [y]) (max n (IntKind.i64.wrap (1 + uSeq (upSs y.body)))) (by rw [h]; simp) (by rw [hw]; omega) (by omega) _ rfl rfl ?_ rfl
      show vI (IntKind.i64.wrap ((p.length : Int) + 1)) = _
      rw [wrapI (by omega) (by omega)]; simp
theorem rlevels_does (hL : LibX X) {m : TMod} (hs : SmM m) (hz : szM m ≤ 1048576) : Does X 21 [.agg (mD m)] [] (.ret (vI (if rightM m = true then upM m else 0)) []) := by
  cases hr : rightM m with
  | false =>
    refine DoesQ.eq (DoesQ.of Tryz.func21 (by kernel_rfl) ?_)
    refine WP.use1 (rright_mod hL m hs) ?_
    rw [hr]
    refine WP.iteT rfl ?_
    exact WP.leaf rfl
  | true =>
    rw [if_pos rfl]
    have hr' := hr
    unfold rightM at hr'
    simp only [Bool.and_eq_true, List.all_eq_true] at hr'
    obtain ⟨_, hc, hf⟩ := hr'
    have u1 := uSeq_ge (m.cs.map fun c => upE c.e)
    refine DoesQ.eq (DoesQ.of Tryz.func21 (by kernel_rfl) ?_)
    refine WP.use1 (rright_mod hL m hs) ?_
    rw [hr]
    refine WP.iteF rfl ?_
    refine rlev_c m hs.nc (fun c h => ?_) _ _ _ ?_ m.cs [] 0 rfl (show max 0 (uSeq (m.cs.map fun c => upE c.e)) = uSeq (m.cs.map fun c => upE c.e) by omega) (by omega) _ rfl rfl rfl rfl
    · have h1 := hc c h
      unfold rightC at h1
      rw [Bool.and_eq_true] at h1
      have h2 := sumN_mem szC h
      unfold szM at hz
      have h5 : szE c.e ≤ szC c := by unfold szC; omega
      exact rup_ok h1.2 (hs.cs c h).2 (by omega)
    refine rlev_f m hs.nf (fun f h => ?_) _ _ _ ?_ m.fs [] _ rfl rfl u1 _ rfl rfl rfl rfl
    · have h1 := hf f h
      unfold rightF at h1
      simp only [Bool.and_eq_true] at h1
      have h2 := sumN_mem szF h
      have h3 := upSs_le f.body
      unfold szM at hz
      have h5 : szSs f.body ≤ szF f := by unfold szF; omega
      exact ⟨rups_ok h1.2.2.2.1 (hs.fs f h).body (hs.fs f h).nb (by omega), by omega⟩
    exact WP.leaf rfl
end
end Go.Proofs.YtaddhpeainliiaaGreatDoor.Id
/-! ## PrV -/
namespace Go.Proofs.YtaddhpeainliiaaGreatDoor.Id
open Go
set_option linter.unusedVariables false
set_option linter.unusedSimpArgs false
set_option maxRecDepth 100000
/-- a form's cells -/
def tb1 (t : Bool) : List UInt8 := if t = true then [] else [9]
abbrev fmD (t : Bool) : List D := [.str (mkB (gp t)), .str (mkB (nl t)), .str (mkB (tb1 t))]
abbrev fmV (t : Bool) : List V := [vS (mkB (gp t)), vS (mkB (nl t)), vS (mkB (tb1 t))]
theorem tb1_len (t : Bool) : (tb1 t).length ≤ 1 := by cases t <;> decide
theorem mkB_add (a b : List UInt8) : mkB a ++ mkB b = mkB (a ++ b) := L_inj (by rw [L_append, L_mkB, L_mkB, L_mkB])
theorem tb_succ (t : Bool) {i : Int} (h : 0 ≤ i) : tb t i ++ tb1 t = tb t (i + 1) := by
  unfold tb tb1
  cases t with
  | true => rfl
  | false =>
    rw [if_neg (by decide), if_neg (by decide), if_neg (by decide)]
    obtain ⟨n, rfl⟩ := Int.eq_ofNat_of_zero_le h
    rw [show ((n : Int) + 1).toNat = n + 1 by omega, show ((n : Int)).toNat = n by omega, List.replicate_succ']
section
variable {X : Given}
theorem rkind_does (t : Int) : Does X 144 [vI t] [] (.ret (vS (mkB (yTyp t))) []) := by
  refine DoesQ.eq (DoesQ.of Tryz.func144 (by kernel_rfl) ?_)
  unfold yTyp
  refine WP.dec (fun h => ?_) (fun h => ?_)
  · rw [if_pos h]; exact WP.leaf rfl
  rw [if_neg h]
  refine WP.dec (fun h => ?_) (fun h => ?_)
  · rw [if_pos h]; exact WP.leaf rfl
  · rw [if_neg h]; exact WP.leaf rfl
def xpT (b : Bool) : List UInt8 := if b = true then yExport ++ [32] else []
theorem rexported_does (b : Bool) : Does X 103 [vB b] [] (.ret (vS (mkB (xpT b))) []) := by
  refine DoesQ.eq (DoesQ.of Tryz.func103 (by kernel_rfl) ?_)
  cases b with
  | true =>
    refine WP.iteT rfl ?_
    exact WP.leaf rfl
  | false =>
    refine WP.iteF rfl ?_
    exact WP.leaf rfl
set_option maxHeartbeats 2000000 in
theorem rkey_does (k e : ByteArray) (c : UInt8) (r : List UInt8) (he : L e = c :: r) (et : List UInt8) (t : Bool) (het : t = true → et = L e) (hk : k.size ≤ 1099511627776) (hes : e.size ≤ 1152921504606846976) : Does X 177 [vS k, vS e, .agg (fmD t)] [] (.ret (vS (mkB (rKey (L k) (L e) et t))) []) := by
  obtain ⟨hb0, hi0⟩ := bt_drop (i := 0) (s := e) (c := c) (r := r) (by simpa using he)
  have hb0 : bt e 0 = (c.toNat : Int) := hb0
  have hi0 : 0 < e.size := hi0
  refine DoesQ.eq (DoesQ.of Tryz.func177 (by kernel_rfl) ?_)
  have far : rKey (L k) (L e) et t = L k ++ (32 :: L e) → Out.ret (vS (k ++ (⟨#[32]⟩ : ByteArray) ++ e)) [] = Out.ret (vS (mkB (rKey (L k) (L e) et t))) [] := fun h => by
    rw [h]
    refine congrArg (fun s => Out.ret (vS s) []) (L_inj ?_)
    simp only [L_append, L_mkB, lit_L]
    simp
  have z1 : k.size + (⟨#[32]⟩ : ByteArray).size ≤ 9223372036854775807 := by show k.size + 1 ≤ _; omega
  have z2 : (k ++ (⟨#[32]⟩ : ByteArray)).size + e.size ≤ 9223372036854775807 := by rw [ByteArray.size_append]; show k.size + 1 + _ ≤ _; omega
  cases t with
  | false =>
    repeat refine WP.iteF (by decide) ?_
    refine WP.asrt z1 ?_
    refine WP.asrt z2 ?_
    exact WP.leaf (far rfl)
  | true =>
    have het := het rfl
    subst het
    have d1 := rletter (X := X) c
    have d2 := rdigit (X := X) c
    have hv : (V.d (.int .u8 (bt e 0))) = vC c := by rw [hb0]
    rw [← hv] at d1 d2
    have ba : 0 ≤ (0 : Int) ∧ (0 : Int) < (e.size : Int) := by omega
    repeat refine WP.iteT (by decide) ?_
    refine WP.asrt ba ?_
    repeat refine WP.iteT (by decide) ?_
    refine WP.use1 d1 ?_
    repeat refine WP.iteT (by decide) ?_
    cases hl : isL c with
    | true =>
      have hw : isW c = true := by unfold isW; rw [hl]; rfl
      repeat refine WP.iteF rfl ?_
      refine WP.asrt z1 ?_
      refine WP.asrt z2 ?_
      refine WP.leaf (far ?_)
      unfold rKey kgap sepL
      rw [he, if_pos rfl, show hdW (c :: r) = true from hw, if_pos ⟨rfl, by decide⟩]
      rfl
    | false =>
      repeat refine WP.iteT rfl ?_
      refine WP.asrt ba ?_
      repeat refine WP.iteT rfl ?_
      refine WP.use1 d2 ?_
      repeat refine WP.iteT rfl ?_
      cases hd : isD c with
      | true =>
        have hw : isW c = true := by unfold isW; rw [hd, Bool.or_true]
        repeat refine WP.iteF rfl ?_
        refine WP.asrt z1 ?_
        refine WP.asrt z2 ?_
        refine WP.leaf (far ?_)
        unfold rKey kgap sepL
        rw [he, if_pos rfl, show hdW (c :: r) = true from hw, if_pos ⟨rfl, by decide⟩]
        rfl
      | false =>
        have hw : isW c = false := by unfold isW; rw [hl, hd]; rfl
        repeat refine WP.iteT rfl ?_
        refine WP.asrt (show k.size + e.size ≤ 9223372036854775807 by omega) ?_
        refine WP.leaf (congrArg (fun s => Out.ret (vS s) []) (L_inj ?_))
        unfold rKey kgap sepL
        rw [L_append, L_mkB, he, if_pos rfl, show hdW (c :: r) = false from hw, if_neg (by simp)]
        rfl
end
end Go.Proofs.YtaddhpeainliiaaGreatDoor.Id
/-! ## PrVb -/
namespace Go.Proofs.YtaddhpeainliiaaGreatDoor.Id
open Go
set_option linter.unusedVariables false
set_option linter.unusedSimpArgs false
set_option maxRecDepth 100000
section
variable {X : Given}
abbrev lenMax : Nat := 4503599627370496
/-- a statement's text by the document -/
def RStmtOK (X : Given) (s : TStmt) : Prop := ∀ (t : Bool) (i : Int), 0 ≤ i → i + szS s ≤ 4194304 → Does X 145 [.agg (sD s), .agg (fmD t), vS (mkB (tb t i))] [] (.ret (vS (mkB (rS litP s t i))) [])
set_option maxHeartbeats 4000000 in
theorem rblk_loop (l : List TStmt) (hk : l.length ≤ 1000000000) (t : Bool) (i : Int) (hi : 0 ≤ i) (him : i + 1 + szSs l ≤ 4194304) (hS : ∀ x ∈ l, RStmtOK X x) (F : List UInt8) (hF : F.length ≤ lenMax) (K : Ex → St → Id.T Out) (Q : Out → Prop)
    (hK : ∀ s, L s = F → WP X (K (.exit 0) ⟨[(2, vS (mkB (tb t i))), (7, vS s)], []⟩) Q) :
    ∀ (r p : List TStmt) (s : ByteArray), l = p ++ r → L s ++ rLines (rSs litP r) t (i + 1) = F → ∀ σ : St, getT σ.t 0 = .d (.sl 16 (ssAll l)) → getT σ.t 2 = vS (mkB (tb t i)) → getT σ.t 4 = .box 4 0 → getT σ.t 7 = vS s → getT σ.t 8 = vI p.length → getB σ.b 4 = some (fmV t) → WP X (.loop (lp Tryz.f105 0) σ K) Q
  | r, p, s, h, hs, σ, g0, g2, g4, g7, g8, gb => by
    refine WP.round ⟨[(0, .d (.sl 16 (ssAll l))), (2, vS (mkB (tb t i))), (4, .box 4 0), (7, vS s), (8, vI p.length)], [(4, fmV t)]⟩ ⟨⟨.inl g0.symm, .inl g2.symm, .inl g4.symm, .inl g7.symm, .inl g8.symm, trivial⟩, ⟨WkB.box gb, trivial⟩⟩ ?_
    have hlen : l.length = p.length + r.length := by rw [h]; simp
    have hsz : s.size + (rLines (rSs litP r) t (i + 1)).length ≤ lenMax := by rw [← L_length, ← List.length_append, hs]; exact hF
    unfold lenMax at hsz
    cases r with
    | nil =>
      refine WP.iteF (by rw [ssAll_len]; simp at hlen; simp; omega) ?_
      rw [rSs, rLines, List.append_nil] at hs
      exact WP.leaf ⟨⟨[(2, vS (mkB (tb t i))), (7, vS s)], []⟩, ⟨⟨.inl rfl, .inl rfl, trivial⟩, trivial⟩, hK s hs⟩
    | cons y r =>
      simp only [List.length_cons] at hlen
      have hys : szS y ≤ szSs l := by rw [szSs_map]; exact sumN_mem szS (by rw [h]; simp)
      have hy := hS y (by rw [h]; simp) t (i + 1) (by omega) (by omega)
      rw [← tb_succ t hi, ← mkB_add] at hy
      rw [rSs, rLines] at hs hsz
      simp only [List.length_append] at hsz
      have b1 := tb_len t i
      have b2 := tb1_len t
      have m1 := mkB_size (tb t i)
      have m2 := mkB_size (tb1 t)
      have m3 := mkB_size (rS litP y t (i + 1))
      have m4 := mkB_size (nl t)
      have z1 : (mkB (tb t i)).size + (mkB (tb1 t)).size ≤ 9223372036854775807 := by omega
      have b3 : (tb t i).length + (tb1 t).length = (tb t (i + 1)).length := by rw [← tb_succ t hi, List.length_append]
      have z2 : (mkB (tb t i) ++ mkB (tb1 t)).size + (mkB (rS litP y t (i + 1))).size ≤ 9223372036854775807 := by rw [ByteArray.size_append]; omega
      have z3 : (mkB (tb t i) ++ mkB (tb1 t) ++ mkB (rS litP y t (i + 1))).size + (mkB (nl t)).size ≤ 9223372036854775807 := by rw [ByteArray.size_append, ByteArray.size_append]; omega
      have z4 : s.size + (mkB (tb t i) ++ mkB (tb1 t) ++ mkB (rS litP y t (i + 1)) ++ mkB (nl t)).size ≤ 9223372036854775807 := by rw [ByteArray.size_append, ByteArray.size_append, ByteArray.size_append]; omega
      refine WP.iteT (by rw [ssAll_len]; simp; omega) ?_
      refine WP.asrt (by kernel_rfl) ?_
      refine WP.asrt z1 ?_
      refine WP.idx _ (by omega) (ssAll_get h) ?_
      refine WP.asrt z1 ?_
      refine WP.use1 hy ?_
      refine WP.asrt z2 ?_
      refine WP.asrt z3 ?_
      refine WP.asrt z4 ?_
      refine WP.asrt (by kernel_rfl) ?_
      refine WP.leaf ?_
      refine rblk_loop l hk t i hi him hS F hF K Q hK r (p ++ [y]) (s ++ (mkB (tb t i) ++ mkB (tb1 t) ++ mkB (rS litP y t (i + 1)) ++ mkB (nl t))) (by rw [h]; simp) ?_ _ rfl rfl rfl rfl ?_ rfl
      · simp only [L_append, L_mkB]
        rw [← hs, ← tb_succ t hi]
        simp only [List.append_assoc]
      · show vI (IntKind.i64.wrap ((p.length : Int) + 1)) = _
        rw [wrapI (by omega) (by omega)]; simp
theorem rblk_w (l : List TStmt) (hk : l.length ≤ 1000000000) (t : Bool) (i : Int) (hi : 0 ≤ i) (him : i + 1 + szSs l ≤ 4194304) (hS : ∀ x ∈ l, RStmtOK X x) : Does X 105 [.d (.sl 16 (ssAll l)), .agg (fmD t), vS (mkB (tb t i))] [] (.ret (vS (mkB (rBlk (rSs litP l) t i))) []) := by
  have hb := blk_len (lit := litP) (l := l) (t := t) hi fun x _ => len_s lit_len x t (by omega)
  have hb2 : 64 * szSs l * (i.toNat + szSs l + 2) ≤ 64 * 4194304 * 4194306 := Nat.mul_le_mul (by omega) (by omega)
  have hF : (rBlk (rSs litP l) t i).length ≤ lenMax := by unfold lenMax; omega
  have b1 := tb_len t i
  have m1 := mkB_size (tb t i)
  have m4 := mkB_size (nl t)
  have b4 := nl_len t
  unfold rBlk at hF
  simp only [List.length_cons, List.length_append, List.length_nil] at hF
  refine DoesQ.eq (DoesQ.of Tryz.func105 (by kernel_rfl) ?_)
  refine WP.asrt (show (⟨#[123]⟩ : ByteArray).size + (mkB (nl t)).size ≤ 9223372036854775807 by show 1 + _ ≤ _; omega) ?_
  refine rblk_loop l hk t i hi him hS (123 :: (nl t ++ rLines (rSs litP l) t (i + 1))) (by simp only [List.length_cons, List.length_append]; omega) _ _ (fun s hs => ?_) l [] ((⟨#[123]⟩ : ByteArray) ++ mkB (nl t)) rfl (by simp only [L_append, L_mkB, lit_L]; simp) _ rfl rfl rfl rfl rfl rfl
  have hss : s.size = 1 + (nl t).length + (rLines (rSs litP l) t (i + 1)).length := by rw [← L_length, hs]; simp; omega
  unfold lenMax at hF
  refine WP.asrt (show s.size + (mkB (tb t i)).size ≤ 9223372036854775807 by omega) ?_
  refine WP.asrt (show (s ++ mkB (tb t i)).size + (⟨#[125]⟩ : ByteArray).size ≤ 9223372036854775807 by rw [ByteArray.size_append]; show s.size + _ + 1 ≤ _; omega) ?_
  refine WP.leaf (congrArg (fun s => Out.ret (vS s) []) (L_inj ?_))
  simp only [L_append, L_mkB, lit_L, hs]
  unfold rBlk
  simp
end
end Go.Proofs.YtaddhpeainliiaaGreatDoor.Id
/-! ## PrVc -/
namespace Go.Proofs.YtaddhpeainliiaaGreatDoor.Id
open Go
set_option linter.unusedVariables false
set_option linter.unusedSimpArgs false
set_option maxRecDepth 100000
section
variable {X : Given}
theorem rBlk_max {l : List TStmt} {t : Bool} {i : Int} (hi : 0 ≤ i) (h : i + szSs l ≤ 4194304) : (rBlk (rSs litP l) t i).length ≤ lenMax := by
  have hb := blk_len (lit := litP) (l := l) (t := t) hi fun x _ => len_s lit_len x t (by omega)
  have hb2 : 64 * szSs l * (i.toNat + szSs l + 2) ≤ 64 * 4194304 * 4194306 := Nat.mul_le_mul (by omega) (by omega)
  unfold lenMax
  omega
theorem rS_max {x : TStmt} {t : Bool} {i : Int} (hi : 0 ≤ i) (h : i + szS x ≤ 4194304) : (rS litP x t i).length ≤ lenMax := by
  have hb := len_s lit_len x t hi
  have hb2 : 64 * szS x * (i.toNat + szS x + 1) ≤ 64 * 4194304 * 4194306 := Nat.mul_le_mul (by omega) (by omega)
  unfold lenMax
  omega
theorem szSs_mem {l : List TStmt} {x : TStmt} (h : x ∈ l) : szS x ≤ szSs l := by rw [szSs_map]; exact sumN_mem szS h
/-- a key ahead of an expression -/
theorem rkey_e (k : List UInt8) (hk : k.length ≤ 64) {e : TExpr} (hr : rightE e = true) (hz : szE e ≤ 1073741824) (t : Bool) : Does X 177 [vS (mkB k), vS (mkB (rE litP e t)), .agg (fmD t)] [] (.ret (vS (mkB (rKey k (rE litP e t) (rE litP e true) t))) []) := by
  obtain ⟨l, hi⟩ := expr_is lit_facts _ e (Nat.lt_succ_self _) hr
  have hne := hi.2.1 t
  have hl := rE_len hz t
  cases hc : rE litP e t with
  | nil => exact absurd hc hne
  | cons c r =>
    have h := rkey_does (X := X) (mkB k) (mkB (c :: r)) c r (L_mkB _) (rE litP e true) t (fun ht => by rw [L_mkB, ← hc, ht]) (by rw [mkB_size]; omega) (by rw [mkB_size, ← hc]; omega)
    rw [L_mkB, L_mkB] at h
    exact h
theorem rKey_max (k e et : List UInt8) (t : Bool) (hk : k.length ≤ 64) (he : e.length ≤ 68719476736) : (rKey k e et t).length ≤ 68719477736 := by
  have := rKey_len k e et t
  omega
set_option maxHeartbeats 8000000 in
theorem rstmt_w (hP : LibP X) : ∀ (n : Nat) (s : TStmt), SizeOf.sizeOf s < n → rightS s = true → smS s → rgS s → szS s ≤ 1073741824 → RStmtOK X s
  | 0, _, h, _, _, _, _ => absurd h (Nat.not_lt_zero _)
  | n + 1, .mk k a nm e body els he, hn, hr, hs, hv, hz => fun t i hi him => by
    rw [rightS, Bool.and_eq_true, Bool.and_eq_true, Bool.and_eq_true] at hr
    obtain ⟨hb, hes, hel, hN⟩ := hr
    rw [smS] at hs
    rw [rgS] at hv
    rw [szS] at him hz
    obtain ⟨s1, s2, s3, s4, s5, s6⟩ := hs
    obtain ⟨v1, v2, v3⟩ := hv
    simp only [TStmt.mk.sizeOf_spec] at hn
    have hbody : ∀ x ∈ body, RStmtOK X x := fun x hx => rstmt_w hP n x (by have := List.sizeOf_lt_of_mem hx; omega) (rightSs_mem hb hx) (smSs_mem s5 hx) (rgSs_mem v2 hx) (by have := szSs_mem hx; omega)
    have hels : ∀ x ∈ els, RStmtOK X x := fun x hx => rstmt_w hP n x (by have := List.sizeOf_lt_of_mem hx; omega) (rightSs_mem hes hx) (smSs_mem s6 hx) (rgSs_mem v3 hx) (by have := szSs_mem hx; omega)
    have hE : rightE e = true → Does X 54 [.agg (eD e), vS (mkB (gp t))] [] (.ret (vS (mkB (rE litP e t))) []) := fun h => rexpr_ok hP h s2 v1 (by omega) t
    have hB : Does X 105 [.d (.sl 16 (ssAll body)), .agg (fmD t), vS (mkB (tb t i))] [] (.ret (vS (mkB (rBlk (rSs litP body) t i))) []) := rblk_w body s3 t i hi (by omega) hbody
    have hB2 : Does X 105 [.d (.sl 16 (ssAll els)), .agg (fmD t), vS (mkB (tb t i))] [] (.ret (vS (mkB (rBlk (rSs litP els) t i))) []) := rblk_w els s4 t i hi (by omega) hels
    have lE := rE_len (e := e) (by omega) t
    have lB : (rBlk (rSs litP body) t i).length ≤ lenMax := rBlk_max hi (by omega)
    have lB2 : (rBlk (rSs litP els) t i).length ≤ lenMax := rBlk_max hi (by omega)
    unfold lenMax at lB lB2
    have lg := gp_len t
    have mE := mkB_size (rE litP e t)
    have mB := mkB_size (rBlk (rSs litP body) t i)
    have mB2 := mkB_size (rBlk (rSs litP els) t i)
    have mg := mkB_size (gp t)
    have q1 : (⟨#[59]⟩ : ByteArray).size = 1 := rfl
    have q2 : (⟨#[61]⟩ : ByteArray).size = 1 := rfl
    have q3 : (⟨#[118, 97, 114, 32]⟩ : ByteArray).size = 4 := rfl
    have q4 : (⟨#[101, 108, 115, 101, 32]⟩ : ByteArray).size = 5 := rfl
    have q5 : (⟨#[101, 108, 115, 101]⟩ : ByteArray).size = 4 := rfl
    rw [rS]
    unfold rightSN at hN
    unfold rSN
    by_cases k1 : k = 1
    · subst k1
      rw [if_pos (.inl rfl)] at hN
      simp only [Bool.and_eq_true, Bool.not_eq_true', decide_eq_true_eq] at hN
      obtain ⟨h1, h2, rfl, h4⟩ := hN
      have hk := rightE_k h1
      rw [if_pos rfl]
      refine DoesQ.eq (DoesQ.of Tryz.func145 (by kernel_rfl) ?_)
      refine WP.iteT (by simp; exact hk) ?_
      refine WP.use1 (hE h1) ?_
      refine WP.iteT rfl ?_
      refine WP.asrt (show (⟨#[118, 97, 114, 32]⟩ : ByteArray).size + nm.size ≤ 9223372036854775807 by omega) ?_
      refine WP.asrt (show ((⟨#[118, 97, 114, 32]⟩ : ByteArray) ++ nm).size + (mkB (gp t)).size ≤ 9223372036854775807 by simp only [ByteArray.size_append]; omega) ?_
      refine WP.asrt (show ((⟨#[118, 97, 114, 32]⟩ : ByteArray) ++ nm ++ mkB (gp t)).size + (⟨#[61]⟩ : ByteArray).size ≤ 9223372036854775807 by simp only [ByteArray.size_append]; omega) ?_
      refine WP.asrt (show ((⟨#[118, 97, 114, 32]⟩ : ByteArray) ++ nm ++ mkB (gp t) ++ (⟨#[61]⟩ : ByteArray)).size + (mkB (gp t)).size ≤ 9223372036854775807 by simp only [ByteArray.size_append]; omega) ?_
      refine WP.asrt (show ((⟨#[118, 97, 114, 32]⟩ : ByteArray) ++ nm ++ mkB (gp t) ++ (⟨#[61]⟩ : ByteArray) ++ mkB (gp t)).size + (mkB (rE litP e t)).size ≤ 9223372036854775807 by simp only [ByteArray.size_append]; omega) ?_
      refine WP.asrt (show ((⟨#[118, 97, 114, 32]⟩ : ByteArray) ++ nm ++ mkB (gp t) ++ (⟨#[61]⟩ : ByteArray) ++ mkB (gp t) ++ mkB (rE litP e t)).size + (⟨#[59]⟩ : ByteArray).size ≤ 9223372036854775807 by simp only [ByteArray.size_append]; omega) ?_
      refine WP.leaf (congrArg (fun s => Out.ret (vS s) []) (L_inj ?_))
      simp only [L_append, L_mkB, lit_L]
      simp
      rfl
    by_cases k2 : k = 2
    · subst k2
      rw [if_pos (.inr rfl)] at hN
      simp only [Bool.and_eq_true, Bool.not_eq_true', decide_eq_true_eq] at hN
      obtain ⟨h1, h2, rfl, h4⟩ := hN
      have hk := rightE_k h1
      rw [if_neg (by decide), if_pos rfl]
      refine DoesQ.eq (DoesQ.of Tryz.func145 (by kernel_rfl) ?_)
      refine WP.iteT (by simp; exact hk) ?_
      refine WP.use1 (hE h1) ?_
      refine WP.iteF rfl ?_
      refine WP.iteT rfl ?_
      refine WP.asrt (show nm.size + (mkB (gp t)).size ≤ 9223372036854775807 by omega) ?_
      refine WP.asrt (show (nm ++ mkB (gp t)).size + (⟨#[61]⟩ : ByteArray).size ≤ 9223372036854775807 by simp only [ByteArray.size_append]; omega) ?_
      refine WP.asrt (show (nm ++ mkB (gp t) ++ (⟨#[61]⟩ : ByteArray)).size + (mkB (gp t)).size ≤ 9223372036854775807 by simp only [ByteArray.size_append]; omega) ?_
      refine WP.asrt (show (nm ++ mkB (gp t) ++ (⟨#[61]⟩ : ByteArray) ++ mkB (gp t)).size + (mkB (rE litP e t)).size ≤ 9223372036854775807 by simp only [ByteArray.size_append]; omega) ?_
      refine WP.asrt (show (nm ++ mkB (gp t) ++ (⟨#[61]⟩ : ByteArray) ++ mkB (gp t) ++ mkB (rE litP e t)).size + (⟨#[59]⟩ : ByteArray).size ≤ 9223372036854775807 by simp only [ByteArray.size_append]; omega) ?_
      refine WP.leaf (congrArg (fun s => Out.ret (vS s) []) (L_inj ?_))
      simp only [L_append, L_mkB, lit_L]
      simp
      rfl
    rw [if_neg (by omega)] at hN
    rw [if_neg k1, if_neg k2]
    by_cases k3 : k = 3
    · subst k3
      rw [if_pos rfl] at hN ⊢
      simp only [Bool.and_eq_true, decide_eq_true_eq] at hN
      have h1 := hN.1
      have hk := rightE_k h1
      have hK := rkey_e (X := X) yIf (by simp) h1 (by omega) t
      have lK := rKey_max yIf (rE litP e t) (rE litP e true) t (by simp) lE
      have mK := mkB_size (rKey yIf (rE litP e t) (rE litP e true) t)
      refine DoesQ.eq (DoesQ.of Tryz.func145 (by kernel_rfl) ?_)
      refine WP.iteT (by simp; exact hk) ?_
      refine WP.use1 (hE h1) ?_
      refine WP.iteF rfl ?_
      refine WP.iteF rfl ?_
      refine WP.iteT rfl ?_
      refine WP.asrt (by kernel_rfl) ?_
      refine WP.use1 hK ?_
      refine WP.asrt (show (mkB (rKey yIf (rE litP e t) (rE litP e true) t)).size + (mkB (gp t)).size ≤ 9223372036854775807 by omega) ?_
      refine WP.use1 hB ?_
      refine WP.asrt (show (mkB (rKey yIf (rE litP e t) (rE litP e true) t) ++ mkB (gp t)).size + (mkB (rBlk (rSs litP body) t i)).size ≤ 9223372036854775807 by simp only [ByteArray.size_append]; omega) ?_
      refine WP.asrt (by kernel_rfl) ?_
      obtain ⟨S, hS⟩ : ∃ S, S = mkB (rKey yIf (rE litP e t) (rE litP e true) t) ++ mkB (gp t) ++ mkB (rBlk (rSs litP body) t i) := ⟨_, rfl⟩
      have lS : S.size ≤ 9007199254740992 := by rw [hS]; simp only [ByteArray.size_append]; omega
      have eS : L S = rKey yIf (rE litP e t) (rE litP e true) t ++ (gp t ++ rBlk (rSs litP body) t i) := by rw [hS]; simp only [L_append, L_mkB, List.append_assoc]
      cases he with
      | false =>
        refine WP.iteT rfl ?_
        refine WP.leaf (congrArg (fun s => Out.ret (vS s) []) (L_inj ?_))
        simp only [L_append, L_mkB, lit_L]
        simp
      | true =>
        have hch := rchained_does (X := X) (.mk 3 a nm e body els true)
        refine WP.iteF rfl ?_
        refine WP.use1 hch ?_
        rw [if_pos rfl]
        show WP X _ (· = Out.ret (vS (mkB (rKey yIf (rE litP e t) (rE litP e true) t ++ (gp t ++ (rBlk (rSs litP body) t i ++ if chained (els.map TStmt.k) = true then (match rSs litP els with | [g] => gp t ++ (yElse ++ (32 :: g t i)) | _ => []) else gp t ++ (yElse ++ (gp t ++ rBlk (rSs litP els) t i))))))) [])
        have hcc : chained ((TStmt.mk 3 a nm e body els true).els.map TStmt.k) = chained (els.map TStmt.k) := rfl
        cases hc : chained (els.map TStmt.k) with
        | true =>
          obtain ⟨x, rfl, hx⟩ := chained_t hc
          rw [if_pos rfl]
          have hxs : szS x ≤ szSs [x] := by rw [szSs, szSs]; omega
          have hx1 := hels x (by simp) t i hi (by omega)
          have lX : (rS litP x t i).length ≤ lenMax := rS_max hi (by omega)
          unfold lenMax at lX
          have mX := mkB_size (rS litP x t i)
          refine WP.iteT (by rw [hcc, hc]) ?_
          refine WP.asrt (by kernel_rfl) ?_
          rw [← hS]
          refine WP.asrt (show S.size + (mkB (gp t)).size ≤ 9223372036854775807 by omega) ?_
          refine WP.asrt (show (S ++ mkB (gp t)).size + (⟨#[101, 108, 115, 101, 32]⟩ : ByteArray).size ≤ 9223372036854775807 by simp only [ByteArray.size_append]; omega) ?_
          refine WP.idx (sD x) (by decide) (by show (ssAll [x])[Int.toNat 0]? = some (sD x); rw [ssAll1]; rfl) ?_
          refine WP.use1 hx1 ?_
          refine WP.asrt (show (S ++ mkB (gp t) ++ (⟨#[101, 108, 115, 101, 32]⟩ : ByteArray)).size + (mkB (rS litP x t i)).size ≤ 9223372036854775807 by simp only [ByteArray.size_append]; omega) ?_
          refine WP.asrt (by kernel_rfl) ?_
          refine WP.leaf (congrArg (fun s => Out.ret (vS s) []) (L_inj ?_))
          simp only [L_append, L_mkB, lit_L, eS]
          rw [rSs, rSs]
          simp
        | false =>
          rw [if_neg (by decide)]
          refine WP.iteF (by rw [hcc, hc]) ?_
          refine WP.asrt (by kernel_rfl) ?_
          rw [← hS]
          refine WP.asrt (show S.size + (mkB (gp t)).size ≤ 9223372036854775807 by omega) ?_
          refine WP.asrt (show (S ++ mkB (gp t)).size + (⟨#[101, 108, 115, 101]⟩ : ByteArray).size ≤ 9223372036854775807 by simp only [ByteArray.size_append]; omega) ?_
          refine WP.asrt (show (S ++ mkB (gp t) ++ (⟨#[101, 108, 115, 101]⟩ : ByteArray)).size + (mkB (gp t)).size ≤ 9223372036854775807 by simp only [ByteArray.size_append]; omega) ?_
          refine WP.use1 hB2 ?_
          refine WP.asrt (show (S ++ mkB (gp t) ++ (⟨#[101, 108, 115, 101]⟩ : ByteArray) ++ mkB (gp t)).size + (mkB (rBlk (rSs litP els) t i)).size ≤ 9223372036854775807 by simp only [ByteArray.size_append]; omega) ?_
          refine WP.asrt (by kernel_rfl) ?_
          refine WP.leaf (congrArg (fun s => Out.ret (vS s) []) (L_inj ?_))
          simp only [L_append, L_mkB, lit_L, eS]
          simp
    rw [if_neg k3] at hN ⊢
    by_cases k4 : k = 4
    · subst k4
      rw [if_pos rfl] at hN ⊢
      simp only [Bool.and_eq_true, Bool.not_eq_true', decide_eq_true_eq] at hN
      obtain ⟨h1, h2, rfl⟩ := hN
      have hk := rightE_k h1
      have hK := rkey_e (X := X) yWhile (by simp) h1 (by omega) t
      have lK := rKey_max yWhile (rE litP e t) (rE litP e true) t (by simp) lE
      have mK := mkB_size (rKey yWhile (rE litP e t) (rE litP e true) t)
      refine DoesQ.eq (DoesQ.of Tryz.func145 (by kernel_rfl) ?_)
      refine WP.iteT (by simp; exact hk) ?_
      refine WP.use1 (hE h1) ?_
      refine WP.iteF rfl ?_
      refine WP.iteF rfl ?_
      refine WP.iteF rfl ?_
      refine WP.iteT rfl ?_
      refine WP.asrt (by kernel_rfl) ?_
      refine WP.use1 hK ?_
      refine WP.asrt (show (mkB (rKey yWhile (rE litP e t) (rE litP e true) t)).size + (mkB (gp t)).size ≤ 9223372036854775807 by omega) ?_
      refine WP.use1 hB ?_
      refine WP.asrt (show (mkB (rKey yWhile (rE litP e t) (rE litP e true) t) ++ mkB (gp t)).size + (mkB (rBlk (rSs litP body) t i)).size ≤ 9223372036854775807 by simp only [ByteArray.size_append]; omega) ?_
      refine WP.asrt (by kernel_rfl) ?_
      refine WP.leaf (congrArg (fun s => Out.ret (vS s) []) (L_inj ?_))
      simp only [L_append, L_mkB, lit_L, List.append_assoc]
    rw [if_neg k4] at hN ⊢
    by_cases k5 : k = 5
    · subst k5
      rw [if_pos rfl] at hN ⊢
      simp only [Bool.and_eq_true, Bool.or_eq_true, Bool.not_eq_true', decide_eq_true_eq] at hN
      obtain ⟨h1, h2, rfl, h4⟩ := hN
      rcases h1 with h1 | h1
      · have hk := rightE_k h1
        rw [decide_eq_false hk, if_neg (by decide)]
        have hK := rkey_e (X := X) yReturn (by simp) h1 (by omega) t
        have lK := rKey_max yReturn (rE litP e t) (rE litP e true) t (by simp) lE
        have mK := mkB_size (rKey yReturn (rE litP e t) (rE litP e true) t)
        obtain ⟨l, hI⟩ := expr_is lit_facts _ e (Nat.lt_succ_self _) h1
        have hne : ¬ mkB (rE litP e t) = ByteArray.empty := fun h => hI.2.1 t (by rw [← L_mkB (rE litP e t), h]; rfl)
        refine DoesQ.eq (DoesQ.of Tryz.func145 (by kernel_rfl) ?_)
        refine WP.iteT (by simp; exact hk) ?_
        refine WP.use1 (hE h1) ?_
        refine WP.iteF rfl ?_
        refine WP.iteF rfl ?_
        refine WP.iteF rfl ?_
        refine WP.iteF rfl ?_
        refine WP.iteT rfl ?_
        refine WP.iteF (by rw [bytes_empty, decide_eq_false hne]) ?_
        refine WP.use1 hK ?_
        refine WP.asrt (show (mkB (rKey yReturn (rE litP e t) (rE litP e true) t)).size + (⟨#[59]⟩ : ByteArray).size ≤ 9223372036854775807 by omega) ?_
        refine WP.leaf (congrArg (fun s => Out.ret (vS s) []) (L_inj ?_))
        simp only [L_append, L_mkB, lit_L]
      · have hk := noneE_k h1
        rw [decide_eq_true hk, if_pos rfl]
        refine DoesQ.eq (DoesQ.of Tryz.func145 (by kernel_rfl) ?_)
        refine WP.iteF (by simp; exact hk) ?_
        refine WP.iteF rfl ?_
        refine WP.iteF rfl ?_
        refine WP.iteF rfl ?_
        refine WP.iteF rfl ?_
        refine WP.iteT rfl ?_
        refine WP.iteT rfl ?_
        exact WP.leaf rfl
    rw [if_neg k5] at hN ⊢
    by_cases k6 : k = 6
    · subst k6
      rw [if_pos rfl] at hN ⊢
      simp only [Bool.and_eq_true, Bool.not_eq_true', decide_eq_true_eq] at hN
      obtain ⟨h1, h2, rfl, h4⟩ := hN
      have hk := rightE_k h1
      have hK := rkey_e (X := X) yPrint (by simp) h1 (by omega) t
      have lK := rKey_max yPrint (rE litP e t) (rE litP e true) t (by simp) lE
      have mK := mkB_size (rKey yPrint (rE litP e t) (rE litP e true) t)
      refine DoesQ.eq (DoesQ.of Tryz.func145 (by kernel_rfl) ?_)
      refine WP.iteT (by simp; exact hk) ?_
      refine WP.use1 (hE h1) ?_
      refine WP.iteF rfl ?_
      refine WP.iteF rfl ?_
      refine WP.iteF rfl ?_
      refine WP.iteF rfl ?_
      refine WP.iteF rfl ?_
      refine WP.iteT rfl ?_
      refine WP.use1 hK ?_
      refine WP.asrt (show (mkB (rKey yPrint (rE litP e t) (rE litP e true) t)).size + (⟨#[59]⟩ : ByteArray).size ≤ 9223372036854775807 by omega) ?_
      refine WP.leaf (congrArg (fun s => Out.ret (vS s) []) (L_inj ?_))
      simp only [L_append, L_mkB, lit_L]
    rw [if_neg k6] at hN ⊢
    by_cases k7 : k = 7
    · subst k7
      rw [if_pos rfl] at hN
      simp only [Bool.and_eq_true, Bool.not_eq_true', decide_eq_true_eq] at hN
      obtain ⟨h1, h2, rfl, h4⟩ := hN
      have hk := rightE_k h1
      refine DoesQ.eq (DoesQ.of Tryz.func145 (by kernel_rfl) ?_)
      refine WP.iteT (by simp; exact hk) ?_
      refine WP.use1 (hE h1) ?_
      refine WP.iteF rfl ?_
      refine WP.iteF rfl ?_
      refine WP.iteF rfl ?_
      refine WP.iteF rfl ?_
      refine WP.iteF rfl ?_
      refine WP.iteF rfl ?_
      refine WP.asrt (show (mkB (rE litP e t)).size + (⟨#[59]⟩ : ByteArray).size ≤ 9223372036854775807 by omega) ?_
      refine WP.leaf (congrArg (fun s => Out.ret (vS s) []) (L_inj ?_))
      simp only [L_append, L_mkB, lit_L]
    rw [if_neg k7] at hN
    cases hN
theorem rstmt_ok (hP : LibP X) {s : TStmt} (hr : rightS s = true) (hs : smS s) (hv : rgS s) (hz : szS s ≤ 1073741824) : RStmtOK X s := rstmt_w hP _ s (Nat.lt_succ_self _) hr hs hv hz
end
end Go.Proofs.YtaddhpeainliiaaGreatDoor.Id
/-! ## PrW -/
namespace Go.Proofs.YtaddhpeainliiaaGreatDoor.Id
open Go
set_option linter.unusedVariables false
set_option linter.unusedSimpArgs false
set_option maxRecDepth 100000
section
variable {X : Given}
theorem rPar_len (x : TParam) (t : Bool) : (rPar x t).length ≤ x.nm.size + 6 := by
  have h1 := gp_len t
  have h2 := yTyp_len x.t
  have h3 := L_length x.nm
  unfold rPar
  simp only [List.length_append, List.length_cons]
  omega
set_option maxHeartbeats 4000000 in
theorem rhead_loop (f : TFunc) (hk : f.ps.length ≤ 1000000000) (t : Bool) (hps : ∀ x ∈ f.ps, x.nm.size ≤ 1048576) (F : List UInt8) (hF : F.length ≤ lenMax) (K : Ex → St → Id.T Out) (Q : Out → Prop)
    (hK : ∀ s, L s = F → WP X (K (.exit 0) ⟨[(2, .box 2 0), (3, .box 3 0), (5, vS s)], [(2, fnV f), (3, fmV t)]⟩) Q) :
    ∀ (r p : List TParam) (s : ByteArray), f.ps = p ++ r → L s ++ rSeq (r.map rPar) (decide (p.length = 0)) t = F → ∀ σ : St, getT σ.t 2 = .box 2 0 → getT σ.t 3 = .box 3 0 → getT σ.t 5 = vS s → getT σ.t 6 = vI p.length → getB σ.b 2 = some (fnV f) → getB σ.b 3 = some (fmV t) → WP X (.loop (lp Tryz.f104 0) σ K) Q
  | r, p, s, h, hs, σ, g2, g3, g5, g6, gb2, gb3 => by
    refine WP.round ⟨[(2, .box 2 0), (3, .box 3 0), (5, vS s), (6, vI p.length)], [(2, fnV f), (3, fmV t)]⟩ ⟨⟨.inl g2.symm, .inl g3.symm, .inl g5.symm, .inl g6.symm, trivial⟩, ⟨WkB.box gb2, WkB.box gb3, trivial⟩⟩ ?_
    have hlen : f.ps.length = p.length + r.length := by rw [h]; simp
    have hsl : (psD f.ps).length = f.ps.length := by simp
    have hsz : s.size + (rSeq (r.map rPar) (decide (p.length = 0)) t).length ≤ lenMax := by rw [← L_length, ← List.length_append, hs]; exact hF
    unfold lenMax at hsz
    cases r with
    | nil =>
      refine WP.iteF (by rw [hsl]; simp at hlen; simp; omega) ?_
      rw [List.map_nil, rSeq, List.append_nil] at hs
      exact WP.leaf ⟨⟨[(2, .box 2 0), (3, .box 3 0), (5, vS s)], [(2, fnV f), (3, fmV t)]⟩, ⟨⟨.inl rfl, .inl rfl, .inl rfl, trivial⟩, ⟨WkB.box rfl, WkB.box rfl, trivial⟩⟩, hK s hs⟩
    | cons y r =>
      simp only [List.length_cons] at hlen
      have hy := hps y (by rw [h]; simp)
      have i1 : (psD f.ps)[((p.length : Int)).toNat]? = some (pD y) := map_get (fun x => pD x) h
      have hg := gp_len t
      have ht := yTyp_len y.t
      have m1 := mkB_size (gp t)
      have m2 := mkB_size (yTyp y.t)
      have q1 : (⟨#[44]⟩ : ByteArray).size = 1 := rfl
      have q2 : (⟨#[58]⟩ : ByteArray).size = 1 := rfl
      have hnext : ∀ (s1 : ByteArray) (σ : St), L s1 ++ rSeq (r.map rPar) false t = F → getT σ.t 2 = .box 2 0 → getT σ.t 3 = .box 3 0 → getT σ.t 5 = vS s1 → getT σ.t 6 = vI (IntKind.i64.wrap ((p.length : Int) + 1)) → getB σ.b 2 = some (fnV f) → getB σ.b 3 = some (fmV t) → WP X (.loop (lp Tryz.f104 0) σ K) Q := fun s1 σ hs1 g2 g3 g5 g6 gb2 gb3 => by
        refine rhead_loop f hk t hps F hF K Q hK r (p ++ [y]) s1 (by rw [h]; simp) ?_ σ g2 g3 g5 ?_ gb2 gb3
        · rw [decide_eq_false (by simp)]; exact hs1
        · rw [g6, wrapI (by omega) (by omega)]; simp
      have par : ∀ (s0 : ByteArray), s0.size ≤ 4503599627370500 → (y.nm.size + (⟨#[58]⟩ : ByteArray).size ≤ 9223372036854775807) ∧ ((y.nm ++ (⟨#[58]⟩ : ByteArray)).size + (mkB (gp t)).size ≤ 9223372036854775807) ∧ ((y.nm ++ (⟨#[58]⟩ : ByteArray) ++ mkB (gp t)).size + (mkB (yTyp y.t)).size ≤ 9223372036854775807) ∧ (s0.size + (y.nm ++ (⟨#[58]⟩ : ByteArray) ++ mkB (gp t) ++ mkB (yTyp y.t)).size ≤ 9223372036854775807) := fun s0 h0 => by
        simp only [ByteArray.size_append]
        omega
      refine WP.iteT (by rw [hsl]; simp; omega) ?_
      by_cases hp : p.length = 0
      · rw [decide_eq_true hp] at hs
        rw [List.map_cons, rSeq, if_pos rfl, List.nil_append] at hs
        obtain ⟨z1, z2, z3, z4⟩ := par s (by omega)
        refine WP.iteF (decide_eq_false (by omega)) ?_
        refine WP.asrt (by kernel_rfl) ?_
        refine WP.idx _ (by omega) i1 ?_
        refine WP.asrt z1 ?_
        refine WP.asrt z2 ?_
        refine WP.idx _ (by omega) i1 ?_
        refine WP.use1 (rkind_does y.t) ?_
        refine WP.asrt z3 ?_
        refine WP.asrt z4 ?_
        refine WP.asrt (by kernel_rfl) ?_
        exact WP.leaf (hnext (s ++ (y.nm ++ (⟨#[58]⟩ : ByteArray) ++ mkB (gp t) ++ mkB (yTyp y.t))) _ (by simp only [L_append, L_mkB, lit_L]; rw [← hs]; unfold rPar; simp) rfl rfl rfl rfl rfl rfl)
      · rw [decide_eq_false hp] at hs
        rw [List.map_cons, rSeq_snd] at hs
        have z0 : (⟨#[44]⟩ : ByteArray).size + (mkB (gp t)).size ≤ 9223372036854775807 := by omega
        have z9 : s.size + ((⟨#[44]⟩ : ByteArray) ++ mkB (gp t)).size ≤ 9223372036854775807 := by simp only [ByteArray.size_append]; omega
        obtain ⟨z1, z2, z3, z4⟩ := par (s ++ ((⟨#[44]⟩ : ByteArray) ++ mkB (gp t))) (by simp only [ByteArray.size_append]; omega)
        refine WP.iteT (decide_eq_true (by omega)) ?_
        refine WP.asrt z0 ?_
        refine WP.asrt z9 ?_
        refine WP.asrt (by kernel_rfl) ?_
        refine WP.idx _ (by omega) i1 ?_
        refine WP.asrt z1 ?_
        refine WP.asrt z2 ?_
        refine WP.idx _ (by omega) i1 ?_
        refine WP.use1 (rkind_does y.t) ?_
        refine WP.asrt z3 ?_
        refine WP.asrt z4 ?_
        refine WP.asrt (by kernel_rfl) ?_
        exact WP.leaf (hnext (s ++ ((⟨#[44]⟩ : ByteArray) ++ mkB (gp t)) ++ (y.nm ++ (⟨#[58]⟩ : ByteArray) ++ mkB (gp t) ++ mkB (yTyp y.t))) _ (by simp only [L_append, L_mkB, lit_L]; rw [← hs]; unfold rPar; simp) rfl rfl rfl rfl rfl rfl)
theorem xpT_eq (b : Bool) (s : List UInt8) : (if b = true then yExport ++ [32] else []) ++ s = rExp b s := by cases b <;> simp [rExp]
set_option maxHeartbeats 4000000 in
theorem rhead_does (f : TFunc) (hs : SmF f) (hz : szF f ≤ 4194304) (t : Bool) : Does X 104 [.agg (fD f), .agg (fmD t)] [] (.ret (vS (mkB (rExp f.ex (rHead f t ++ (rRes f.res t ++ gp t))))) []) := by
  have hp : (rSeq (f.ps.map rPar) true t).length ≤ 8 * szF f := by
    have h1 := rSeq_len t (f.ps.map rPar) true
    have h2 : sumN ((f.ps.map rPar).map fun s => (s t).length + 2) ≤ sumN (f.ps.map fun x => 8 * (1 + x.nm.size)) := by
      rw [List.map_map]
      refine sumN_le fun x hx => ?_
      have := rPar_len x t
      show (rPar x t).length + 2 ≤ _
      omega
    rw [sumN_mul] at h2
    have h3 : sumN (f.ps.map fun x => 1 + x.nm.size) ≤ szF f := by unfold szF; omega
    omega
  have hn : f.nm.size ≤ szF f := by unfold szF; omega
  have hg := gp_len t
  have ht := yTyp_len f.res
  have m1 := mkB_size (gp t)
  have m2 := mkB_size (yTyp f.res)
  have q1 : (⟨#[102, 117, 110, 99, 32]⟩ : ByteArray).size = 5 := rfl
  have q2 : (⟨#[40]⟩ : ByteArray).size = 1 := rfl
  have q3 : (⟨#[41]⟩ : ByteArray).size = 1 := rfl
  have q4 : (⟨#[58]⟩ : ByteArray).size = 1 := rfl
  have mx := mkB_size (xpT f.ex)
  have lx : (xpT f.ex).length ≤ 7 := by unfold xpT; split <;> simp
  have hLn := L_length f.nm
  refine DoesQ.eq (DoesQ.of Tryz.func104 (by kernel_rfl) ?_)
  refine WP.asrt (show (⟨#[102, 117, 110, 99, 32]⟩ : ByteArray).size + f.nm.size ≤ 9223372036854775807 by omega) ?_
  refine WP.asrt (show ((⟨#[102, 117, 110, 99, 32]⟩ : ByteArray) ++ f.nm).size + (⟨#[40]⟩ : ByteArray).size ≤ 9223372036854775807 by simp only [ByteArray.size_append]; omega) ?_
  refine rhead_loop f hs.np t hs.ps (yFunc ++ (32 :: (L f.nm ++ (40 :: rSeq (f.ps.map rPar) true t)))) (by unfold lenMax; simp only [List.length_append, List.length_cons, List.length_nil]; omega) _ _ (fun s hss => ?_) f.ps [] ((⟨#[102, 117, 110, 99, 32]⟩ : ByteArray) ++ f.nm ++ (⟨#[40]⟩ : ByteArray)) rfl (by simp only [L_append, lit_L]; simp) _ rfl rfl rfl rfl rfl rfl
  have ls : s.size ≤ 100000000 := by
    rw [← L_length, hss]
    simp only [List.length_append, List.length_cons, List.length_nil]
    omega
  refine WP.asrt (show s.size + (⟨#[41]⟩ : ByteArray).size ≤ 9223372036854775807 by omega) ?_
  by_cases hr : f.res = 0
  · refine WP.iteF (by simp; exact hr) ?_
    refine WP.asrt (by kernel_rfl) ?_
    refine WP.use1 (rexported_does f.ex) ?_
    refine WP.asrt (show (mkB (xpT f.ex)).size + (s ++ (⟨#[41]⟩ : ByteArray)).size ≤ 9223372036854775807 by simp only [ByteArray.size_append]; omega) ?_
    refine WP.asrt (show (mkB (xpT f.ex) ++ (s ++ (⟨#[41]⟩ : ByteArray))).size + (mkB (gp t)).size ≤ 9223372036854775807 by simp only [ByteArray.size_append]; omega) ?_
    refine WP.asrt (by kernel_rfl) ?_
    refine WP.leaf (congrArg (fun s => Out.ret (vS s) []) (L_inj ?_))
    simp only [L_append, L_mkB, lit_L, hss]
    rw [← xpT_eq]
    unfold rHead rRes xpT
    rw [if_pos hr]
    simp
  · refine WP.iteT (by simp; exact hr) ?_
    refine WP.asrt (by kernel_rfl) ?_
    refine WP.asrt (show (⟨#[58]⟩ : ByteArray).size + (mkB (gp t)).size ≤ 9223372036854775807 by omega) ?_
    refine WP.use1 (rkind_does f.res) ?_
    refine WP.asrt (show ((⟨#[58]⟩ : ByteArray) ++ mkB (gp t)).size + (mkB (yTyp f.res)).size ≤ 9223372036854775807 by simp only [ByteArray.size_append]; omega) ?_
    refine WP.asrt (show (s ++ (⟨#[41]⟩ : ByteArray)).size + ((⟨#[58]⟩ : ByteArray) ++ mkB (gp t) ++ mkB (yTyp f.res)).size ≤ 9223372036854775807 by simp only [ByteArray.size_append]; omega) ?_
    refine WP.asrt (by kernel_rfl) ?_
    refine WP.asrt (by kernel_rfl) ?_
    refine WP.use1 (rexported_does f.ex) ?_
    refine WP.asrt (show (mkB (xpT f.ex)).size + (s ++ (⟨#[41]⟩ : ByteArray) ++ ((⟨#[58]⟩ : ByteArray) ++ mkB (gp t) ++ mkB (yTyp f.res))).size ≤ 9223372036854775807 by simp only [ByteArray.size_append]; omega) ?_
    refine WP.asrt (show (mkB (xpT f.ex) ++ (s ++ (⟨#[41]⟩ : ByteArray) ++ ((⟨#[58]⟩ : ByteArray) ++ mkB (gp t) ++ mkB (yTyp f.res)))).size + (mkB (gp t)).size ≤ 9223372036854775807 by simp only [ByteArray.size_append]; omega) ?_
    refine WP.asrt (by kernel_rfl) ?_
    refine WP.leaf (congrArg (fun s => Out.ret (vS s) []) (L_inj ?_))
    simp only [L_append, L_mkB, lit_L, hss]
    rw [← xpT_eq]
    unfold rHead rRes xpT
    rw [if_neg hr]
    simp
end
end Go.Proofs.YtaddhpeainliiaaGreatDoor.Id
/-! ## PrWb -/
namespace Go.Proofs.YtaddhpeainliiaaGreatDoor.Id
open Go
set_option linter.unusedVariables false
set_option linter.unusedSimpArgs false
set_option maxRecDepth 100000
section
variable {X : Given}
abbrev txB (m : TMod) (t : Bool) : Boxes := [(2, mV m), (3, fmV t)]
set_option maxHeartbeats 4000000 in
theorem rtx_i (m : TMod) (hk : m.is.length ≤ 1000000000) (t : Bool) (hI : ∀ x ∈ m.is, rightI x = true ∧ x.nm.size ≤ 1048576) (F : List UInt8) (hF : F.length ≤ lenMax) (K : Ex → St → Id.T Out) (Q : Out → Prop)
    (hK : ∀ s, L s = F → WP X (K (.exit 0) ⟨[(2, .box 2 0), (3, .box 3 0), (5, vS s)], txB m t⟩) Q) :
    ∀ (r p : List TIncl) (s : ByteArray), m.is = p ++ r → L s ++ rIt (r.map (rI qtP)) t = F → ∀ σ : St, getT σ.t 2 = .box 2 0 → getT σ.t 3 = .box 3 0 → getT σ.t 5 = vS s → getT σ.t 6 = vI p.length → getB σ.b 2 = some (mV m) → getB σ.b 3 = some (fmV t) → WP X (.loop (lp Tryz.f64 0) σ K) Q
  | r, p, s, h, hs, σ, g2, g3, g5, g6, gb2, gb3 => by
    refine WP.round ⟨[(2, .box 2 0), (3, .box 3 0), (5, vS s), (6, vI p.length)], txB m t⟩ ⟨⟨.inl g2.symm, .inl g3.symm, .inl g5.symm, .inl g6.symm, trivial⟩, ⟨WkB.box gb2, WkB.box gb3, trivial⟩⟩ ?_
    have hlen : m.is.length = p.length + r.length := by rw [h]; simp
    have hsl : (isD' m.is).length = m.is.length := by simp
    have hsz : s.size + (rIt (r.map (rI qtP)) t).length ≤ lenMax := by rw [← L_length, ← List.length_append, hs]; exact hF
    unfold lenMax at hsz
    cases r with
    | nil =>
      refine WP.iteF (by rw [hsl]; simp at hlen; simp; omega) ?_
      rw [List.map_nil, rIt, List.append_nil] at hs
      exact WP.leaf ⟨⟨[(2, .box 2 0), (3, .box 3 0), (5, vS s)], txB m t⟩, ⟨⟨.inl rfl, .inl rfl, .inl rfl, trivial⟩, ⟨WkB.box rfl, WkB.box rfl, trivial⟩⟩, hK s hs⟩
    | cons y r =>
      simp only [List.length_cons] at hlen
      obtain ⟨hy, hy2⟩ := hI y (by rw [h]; simp)
      unfold rightI at hy
      rw [Bool.and_eq_true, decide_eq_true_eq] at hy
      have i1 : (isD' m.is)[((p.length : Int)).toNat]? = some (iD y) := map_get (fun x => iD x) h
      have hg := gp_len t
      have hn := nl_len t
      have hq := qtP_len y.p
      have m1 := mkB_size (gp t)
      have m2 := mkB_size (nl t)
      have m3 := mkB_size (qtP y.p)
      have q1 : (⟨#[105, 110, 99, 108, 117, 100, 101]⟩ : ByteArray).size = 7 := rfl
      have q2 : (⟨#[97, 115, 32]⟩ : ByteArray).size = 3 := rfl
      have q3 : (⟨#[59]⟩ : ByteArray).size = 1 := rfl
      rw [List.map_cons, rIt] at hs
      refine WP.iteT (by rw [hsl]; simp; omega) ?_
      refine WP.idx _ (by omega) i1 ?_
      refine WP.use1 (rquote y.p hy.1) ?_
      refine WP.asrt (by kernel_rfl) ?_
      refine WP.asrt (show (⟨#[105, 110, 99, 108, 117, 100, 101]⟩ : ByteArray).size + (mkB (gp t)).size ≤ 9223372036854775807 by omega) ?_
      refine WP.asrt (show ((⟨#[105, 110, 99, 108, 117, 100, 101]⟩ : ByteArray) ++ mkB (gp t)).size + (mkB (qtP y.p)).size ≤ 9223372036854775807 by simp only [ByteArray.size_append]; omega) ?_
      refine WP.asrt (show ((⟨#[105, 110, 99, 108, 117, 100, 101]⟩ : ByteArray) ++ mkB (gp t) ++ mkB (qtP y.p)).size + (mkB (gp t)).size ≤ 9223372036854775807 by simp only [ByteArray.size_append]; omega) ?_
      refine WP.asrt (show ((⟨#[105, 110, 99, 108, 117, 100, 101]⟩ : ByteArray) ++ mkB (gp t) ++ mkB (qtP y.p) ++ mkB (gp t)).size + (⟨#[97, 115, 32]⟩ : ByteArray).size ≤ 9223372036854775807 by simp only [ByteArray.size_append]; omega) ?_
      refine WP.idx _ (by omega) i1 ?_
      refine WP.asrt (show ((⟨#[105, 110, 99, 108, 117, 100, 101]⟩ : ByteArray) ++ mkB (gp t) ++ mkB (qtP y.p) ++ mkB (gp t) ++ (⟨#[97, 115, 32]⟩ : ByteArray)).size + y.nm.size ≤ 9223372036854775807 by simp only [ByteArray.size_append]; omega) ?_
      refine WP.asrt (show ((⟨#[105, 110, 99, 108, 117, 100, 101]⟩ : ByteArray) ++ mkB (gp t) ++ mkB (qtP y.p) ++ mkB (gp t) ++ (⟨#[97, 115, 32]⟩ : ByteArray) ++ y.nm).size + (⟨#[59]⟩ : ByteArray).size ≤ 9223372036854775807 by simp only [ByteArray.size_append]; omega) ?_
      refine WP.asrt (show ((⟨#[105, 110, 99, 108, 117, 100, 101]⟩ : ByteArray) ++ mkB (gp t) ++ mkB (qtP y.p) ++ mkB (gp t) ++ (⟨#[97, 115, 32]⟩ : ByteArray) ++ y.nm ++ (⟨#[59]⟩ : ByteArray)).size + (mkB (nl t)).size ≤ 9223372036854775807 by simp only [ByteArray.size_append]; omega) ?_
      refine WP.asrt (show s.size + ((⟨#[105, 110, 99, 108, 117, 100, 101]⟩ : ByteArray) ++ mkB (gp t) ++ mkB (qtP y.p) ++ mkB (gp t) ++ (⟨#[97, 115, 32]⟩ : ByteArray) ++ y.nm ++ (⟨#[59]⟩ : ByteArray) ++ mkB (nl t)).size ≤ 9223372036854775807 by simp only [ByteArray.size_append]; omega) ?_
      refine WP.asrt (by kernel_rfl) ?_
      refine WP.leaf ?_
      refine rtx_i m hk t hI F hF K Q hK r (p ++ [y]) (s ++ ((⟨#[105, 110, 99, 108, 117, 100, 101]⟩ : ByteArray) ++ mkB (gp t) ++ mkB (qtP y.p) ++ mkB (gp t) ++ (⟨#[97, 115, 32]⟩ : ByteArray) ++ y.nm ++ (⟨#[59]⟩ : ByteArray) ++ mkB (nl t))) (by rw [h]; simp) ?_ _ rfl rfl rfl ?_ rfl rfl
      · simp only [L_append, L_mkB, lit_L]
        rw [← hs]
        unfold rI
        simp
      · show vI (IntKind.i64.wrap ((p.length : Int) + 1)) = _
        rw [wrapI (by omega) (by omega)]; simp
set_option maxHeartbeats 4000000 in
theorem rtx_c (m : TMod) (hk : m.cs.length ≤ 1000000000) (t : Bool) (hC : ∀ x ∈ m.cs, RExprOK X x.e ∧ szE x.e ≤ 1073741824 ∧ x.nm.size ≤ 1048576) (F : List UInt8) (hF : F.length ≤ lenMax) (K : Ex → St → Id.T Out) (Q : Out → Prop)
    (hK : ∀ s, L s = F → WP X (K (.exit 2) ⟨[(2, .box 2 0), (3, .box 3 0), (5, vS s)], txB m t⟩) Q) :
    ∀ (r p : List TCons) (s : ByteArray), m.cs = p ++ r → L s ++ rIt (r.map (rC litP)) t = F → ∀ σ : St, getT σ.t 2 = .box 2 0 → getT σ.t 3 = .box 3 0 → getT σ.t 5 = vS s → getT σ.t 9 = vI p.length → getB σ.b 2 = some (mV m) → getB σ.b 3 = some (fmV t) → WP X (.loop (lp Tryz.f64 1) σ K) Q
  | r, p, s, h, hs, σ, g2, g3, g5, g6, gb2, gb3 => by
    refine WP.round ⟨[(2, .box 2 0), (3, .box 3 0), (5, vS s), (9, vI p.length)], txB m t⟩ ⟨⟨.inl g2.symm, .inl g3.symm, .inl g5.symm, .inl g6.symm, trivial⟩, ⟨WkB.box gb2, WkB.box gb3, trivial⟩⟩ ?_
    have hlen : m.cs.length = p.length + r.length := by rw [h]; simp
    have hsl : (csD m.cs).length = m.cs.length := by simp
    have hsz : s.size + (rIt (r.map (rC litP)) t).length ≤ lenMax := by rw [← L_length, ← List.length_append, hs]; exact hF
    unfold lenMax at hsz
    cases r with
    | nil =>
      refine WP.iteF (by rw [hsl]; simp at hlen; simp; omega) ?_
      rw [List.map_nil, rIt, List.append_nil] at hs
      exact WP.leaf ⟨⟨[(2, .box 2 0), (3, .box 3 0), (5, vS s)], txB m t⟩, ⟨⟨.inl rfl, .inl rfl, .inl rfl, trivial⟩, ⟨WkB.box rfl, WkB.box rfl, trivial⟩⟩, hK s hs⟩
    | cons y r =>
      simp only [List.length_cons] at hlen
      obtain ⟨hy, hy2, hy3⟩ := hC y (by rw [h]; simp)
      have i1 : (csD m.cs)[((p.length : Int)).toNat]? = some (cD y) := map_get (fun x => cD x) h
      have hg := gp_len t
      have hn := nl_len t
      have lE := rE_len hy2 t
      have lx : (xpT y.ex).length ≤ 7 := by unfold xpT; split <;> simp
      have m1 := mkB_size (gp t)
      have m2 := mkB_size (nl t)
      have m3 := mkB_size (rE litP y.e t)
      have m4 := mkB_size (xpT y.ex)
      have q1 : (⟨#[99, 111, 110, 115, 116, 32]⟩ : ByteArray).size = 6 := rfl
      have q2 : (⟨#[61]⟩ : ByteArray).size = 1 := rfl
      have q3 : (⟨#[59]⟩ : ByteArray).size = 1 := rfl
      rw [List.map_cons, rIt] at hs
      refine WP.iteT (by rw [hsl]; simp; omega) ?_
      refine WP.idx _ (by omega) i1 ?_
      refine WP.asrt (by kernel_rfl) ?_
      refine WP.use1 (rexported_does y.ex) ?_
      refine WP.asrt (show (mkB (xpT y.ex)).size + (⟨#[99, 111, 110, 115, 116, 32]⟩ : ByteArray).size ≤ 9223372036854775807 by omega) ?_
      refine WP.asrt (show (mkB (xpT y.ex) ++ (⟨#[99, 111, 110, 115, 116, 32]⟩ : ByteArray)).size + y.nm.size ≤ 9223372036854775807 by simp only [ByteArray.size_append]; omega) ?_
      refine WP.asrt (show (mkB (xpT y.ex) ++ (⟨#[99, 111, 110, 115, 116, 32]⟩ : ByteArray) ++ y.nm).size + (mkB (gp t)).size ≤ 9223372036854775807 by simp only [ByteArray.size_append]; omega) ?_
      refine WP.asrt (show (mkB (xpT y.ex) ++ (⟨#[99, 111, 110, 115, 116, 32]⟩ : ByteArray) ++ y.nm ++ mkB (gp t)).size + (⟨#[61]⟩ : ByteArray).size ≤ 9223372036854775807 by simp only [ByteArray.size_append]; omega) ?_
      refine WP.asrt (show (mkB (xpT y.ex) ++ (⟨#[99, 111, 110, 115, 116, 32]⟩ : ByteArray) ++ y.nm ++ mkB (gp t) ++ (⟨#[61]⟩ : ByteArray)).size + (mkB (gp t)).size ≤ 9223372036854775807 by simp only [ByteArray.size_append]; omega) ?_
      refine WP.use1 (hy t) ?_
      refine WP.asrt (show (mkB (xpT y.ex) ++ (⟨#[99, 111, 110, 115, 116, 32]⟩ : ByteArray) ++ y.nm ++ mkB (gp t) ++ (⟨#[61]⟩ : ByteArray) ++ mkB (gp t)).size + (mkB (rE litP y.e t)).size ≤ 9223372036854775807 by simp only [ByteArray.size_append]; omega) ?_
      refine WP.asrt (show (mkB (xpT y.ex) ++ (⟨#[99, 111, 110, 115, 116, 32]⟩ : ByteArray) ++ y.nm ++ mkB (gp t) ++ (⟨#[61]⟩ : ByteArray) ++ mkB (gp t) ++ mkB (rE litP y.e t)).size + (⟨#[59]⟩ : ByteArray).size ≤ 9223372036854775807 by simp only [ByteArray.size_append]; omega) ?_
      refine WP.asrt (show (mkB (xpT y.ex) ++ (⟨#[99, 111, 110, 115, 116, 32]⟩ : ByteArray) ++ y.nm ++ mkB (gp t) ++ (⟨#[61]⟩ : ByteArray) ++ mkB (gp t) ++ mkB (rE litP y.e t) ++ (⟨#[59]⟩ : ByteArray)).size + (mkB (nl t)).size ≤ 9223372036854775807 by simp only [ByteArray.size_append]; omega) ?_
      refine WP.asrt (show s.size + (mkB (xpT y.ex) ++ (⟨#[99, 111, 110, 115, 116, 32]⟩ : ByteArray) ++ y.nm ++ mkB (gp t) ++ (⟨#[61]⟩ : ByteArray) ++ mkB (gp t) ++ mkB (rE litP y.e t) ++ (⟨#[59]⟩ : ByteArray) ++ mkB (nl t)).size ≤ 9223372036854775807 by simp only [ByteArray.size_append]; omega) ?_
      refine WP.asrt (by kernel_rfl) ?_
      refine WP.leaf ?_
      refine rtx_c m hk t hC F hF K Q hK r (p ++ [y]) (s ++ (mkB (xpT y.ex) ++ (⟨#[99, 111, 110, 115, 116, 32]⟩ : ByteArray) ++ y.nm ++ mkB (gp t) ++ (⟨#[61]⟩ : ByteArray) ++ mkB (gp t) ++ mkB (rE litP y.e t) ++ (⟨#[59]⟩ : ByteArray) ++ mkB (nl t))) (by rw [h]; simp) ?_ _ rfl rfl rfl ?_ rfl rfl
      · simp only [L_append, L_mkB, lit_L]
        rw [← hs]
        unfold rC
        rw [← xpT_eq]
        unfold xpT
        simp
      · show vI (IntKind.i64.wrap ((p.length : Int) + 1)) = _
        rw [wrapI (by omega) (by omega)]; simp
end
end Go.Proofs.YtaddhpeainliiaaGreatDoor.Id
/-! ## PrS -/
namespace Go.Proofs.YtaddhpeainliiaaGreatDoor.Id
open Go
set_option linter.unusedVariables false
set_option linter.unusedSimpArgs false
set_option maxRecDepth 100000
section
variable {X : Given}
set_option maxHeartbeats 2000000 in
theorem eqfI_loop (R : TIncl → TIncl → Bool) (fn : FuncId) (l m : List TIncl) (hk : l.length ≤ 1000000000) (hD : ∀ x ∈ l, ∀ y ∈ m, Does X fn [.agg (iD x), .agg (iD y)] [] (.ret (vB (R x y)) [])) (K : Ex → St → Id.T Out) (Q : Out → Prop)
    (hE : all2 R l m = true → WP X (K (.exit 0) ⟨[], []⟩) Q) (hR : all2 R l m = false → WP X (K .ret ⟨[(6, .lit false)], []⟩) Q) :
    ∀ (r p s q : List TIncl), l = p ++ r → m = q ++ s → p.length = q.length → r.length = s.length → all2 R l m = all2 R r s → ∀ σ : St, getT σ.t 1 = .d (.sl 3 (m.map fun x => iD x)) → getT σ.t 2 = .fn fn [] [] → getT σ.t 15 = .d (.sl 3 (l.map fun x => iD x)) → getT σ.t 16 = vI (l.map fun x => iD x).length → getT σ.t 17 = vI p.length → WP X (.loop (lp Tryz.f31 0) σ K) Q
  | r, p, s, q, h, h', hpq, hrs, ha, σ, g1, g2, g15, g16, g17 => by
    refine WP.round ⟨[(1, .d (.sl 3 (m.map fun x => iD x))), (2, .fn fn [] []), (15, .d (.sl 3 (l.map fun x => iD x))), (16, vI (l.map fun x => iD x).length), (17, vI p.length)], []⟩ ⟨⟨.inl g1.symm, .inl g2.symm, .inl g15.symm, .inl g16.symm, .inl g17.symm, trivial⟩, trivial⟩ ?_
    have hlen : l.length = p.length + r.length := by rw [h]; simp
    have hsl : (l.map fun x => iD x).length = l.length := by simp
    cases r with
    | nil =>
      cases s with
      | cons _ _ => simp at hrs
      | nil =>
        refine WP.iteF (by rw [hsl]; simp at hlen; simp; omega) ?_
        exact WP.leaf ⟨⟨[], []⟩, ⟨trivial, trivial⟩, hE (by rw [ha]; rfl)⟩
    | cons x r =>
      cases s with
      | nil => simp at hrs
      | cons y s =>
        simp only [List.length_cons] at hlen hrs
        rw [all2] at ha
        refine WP.iteT (by rw [hsl]; simp; omega) ?_
        refine WP.idx _ (by omega) (map_get (fun x => iD x) h) ?_
        refine WP.idx _ (by omega) (by rw [hpq]; exact map_get (fun x => iD x) h') ?_
        refine WP.use1 (hD x (by rw [h]; simp) y (by rw [h']; simp)) ?_
        cases hxy : R x y with
        | false =>
          rw [hxy] at ha
          refine WP.iteT rfl ?_
          exact WP.leaf ⟨⟨[(6, .lit false)], []⟩, ⟨⟨.inl rfl, trivial⟩, trivial⟩, hR ha⟩
        | true =>
          rw [hxy] at ha
          refine WP.iteF rfl ?_
          refine WP.leaf ?_
          refine eqfI_loop R fn l m hk hD K Q hE hR r (p ++ [x]) s (q ++ [y]) (by rw [h]; simp) (by rw [h']; simp) (by simp [hpq]) (by omega) ha _ rfl rfl rfl rfl ?_
          show vI (IntKind.i64.wrap ((p.length : Int) + 1)) = _
          rw [wrapI (by omega) (by omega)]; simp
theorem eqfI (R : TIncl → TIncl → Bool) (fn : FuncId) (l m : List TIncl) (hk : l.length ≤ 1000000000) (hD : ∀ x ∈ l, ∀ y ∈ m, Does X fn [.agg (iD x), .agg (iD y)] [] (.ret (vB (R x y)) [])) : Does X 31 [.d (.sl 3 (l.map fun x => iD x)), .d (.sl 3 (m.map fun x => iD x)), .fn fn [] []] [] (.ret (vB (all2 R l m)) []) := by
  refine DoesQ.eq (DoesQ.of Tryz.func31 (by kernel_rfl) ?_)
  have hsl : (l.map fun x => iD x).length = l.length := by simp
  have hsm : (m.map fun x => iD x).length = m.length := by simp
  by_cases hlm : l.length = m.length
  · refine WP.iteF (by rw [hsl, hsm]; simp; omega) ?_
    refine eqfI_loop R fn l m hk hD _ _ ?_ ?_ l [] m [] rfl rfl rfl hlm rfl _ rfl rfl rfl rfl rfl
    · intro h; exact WP.leaf (by rw [h])
    · intro h; exact WP.leaf (by rw [h])
  · refine WP.iteT (by rw [hsl, hsm]; simp; omega) ?_
    exact WP.leaf (by rw [all2_len hlm])
set_option maxHeartbeats 2000000 in
theorem eqfC_loop (R : TCons → TCons → Bool) (fn : FuncId) (l m : List TCons) (hk : l.length ≤ 1000000000) (hD : ∀ x ∈ l, ∀ y ∈ m, Does X fn [.agg (cD x), .agg (cD y)] [] (.ret (vB (R x y)) [])) (K : Ex → St → Id.T Out) (Q : Out → Prop)
    (hE : all2 R l m = true → WP X (K (.exit 0) ⟨[], []⟩) Q) (hR : all2 R l m = false → WP X (K .ret ⟨[(6, .lit false)], []⟩) Q) :
    ∀ (r p s q : List TCons), l = p ++ r → m = q ++ s → p.length = q.length → r.length = s.length → all2 R l m = all2 R r s → ∀ σ : St, getT σ.t 1 = .d (.sl 13 (m.map fun x => cD x)) → getT σ.t 2 = .fn fn [] [] → getT σ.t 15 = .d (.sl 13 (l.map fun x => cD x)) → getT σ.t 16 = vI (l.map fun x => cD x).length → getT σ.t 17 = vI p.length → WP X (.loop (lp Tryz.f33 0) σ K) Q
  | r, p, s, q, h, h', hpq, hrs, ha, σ, g1, g2, g15, g16, g17 => by
    refine WP.round ⟨[(1, .d (.sl 13 (m.map fun x => cD x))), (2, .fn fn [] []), (15, .d (.sl 13 (l.map fun x => cD x))), (16, vI (l.map fun x => cD x).length), (17, vI p.length)], []⟩ ⟨⟨.inl g1.symm, .inl g2.symm, .inl g15.symm, .inl g16.symm, .inl g17.symm, trivial⟩, trivial⟩ ?_
    have hlen : l.length = p.length + r.length := by rw [h]; simp
    have hsl : (l.map fun x => cD x).length = l.length := by simp
    cases r with
    | nil =>
      cases s with
      | cons _ _ => simp at hrs
      | nil =>
        refine WP.iteF (by rw [hsl]; simp at hlen; simp; omega) ?_
        exact WP.leaf ⟨⟨[], []⟩, ⟨trivial, trivial⟩, hE (by rw [ha]; rfl)⟩
    | cons x r =>
      cases s with
      | nil => simp at hrs
      | cons y s =>
        simp only [List.length_cons] at hlen hrs
        rw [all2] at ha
        refine WP.iteT (by rw [hsl]; simp; omega) ?_
        refine WP.idx _ (by omega) (map_get (fun x => cD x) h) ?_
        refine WP.idx _ (by omega) (by rw [hpq]; exact map_get (fun x => cD x) h') ?_
        refine WP.use1 (hD x (by rw [h]; simp) y (by rw [h']; simp)) ?_
        cases hxy : R x y with
        | false =>
          rw [hxy] at ha
          refine WP.iteT rfl ?_
          exact WP.leaf ⟨⟨[(6, .lit false)], []⟩, ⟨⟨.inl rfl, trivial⟩, trivial⟩, hR ha⟩
        | true =>
          rw [hxy] at ha
          refine WP.iteF rfl ?_
          refine WP.leaf ?_
          refine eqfC_loop R fn l m hk hD K Q hE hR r (p ++ [x]) s (q ++ [y]) (by rw [h]; simp) (by rw [h']; simp) (by simp [hpq]) (by omega) ha _ rfl rfl rfl rfl ?_
          show vI (IntKind.i64.wrap ((p.length : Int) + 1)) = _
          rw [wrapI (by omega) (by omega)]; simp
theorem eqfC (R : TCons → TCons → Bool) (fn : FuncId) (l m : List TCons) (hk : l.length ≤ 1000000000) (hD : ∀ x ∈ l, ∀ y ∈ m, Does X fn [.agg (cD x), .agg (cD y)] [] (.ret (vB (R x y)) [])) : Does X 33 [.d (.sl 13 (l.map fun x => cD x)), .d (.sl 13 (m.map fun x => cD x)), .fn fn [] []] [] (.ret (vB (all2 R l m)) []) := by
  refine DoesQ.eq (DoesQ.of Tryz.func33 (by kernel_rfl) ?_)
  have hsl : (l.map fun x => cD x).length = l.length := by simp
  have hsm : (m.map fun x => cD x).length = m.length := by simp
  by_cases hlm : l.length = m.length
  · refine WP.iteF (by rw [hsl, hsm]; simp; omega) ?_
    refine eqfC_loop R fn l m hk hD _ _ ?_ ?_ l [] m [] rfl rfl rfl hlm rfl _ rfl rfl rfl rfl rfl
    · intro h; exact WP.leaf (by rw [h])
    · intro h; exact WP.leaf (by rw [h])
  · refine WP.iteT (by rw [hsl, hsm]; simp; omega) ?_
    exact WP.leaf (by rw [all2_len hlm])
set_option maxHeartbeats 2000000 in
theorem eqfF_loop (R : TFunc → TFunc → Bool) (fn : FuncId) (l m : List TFunc) (hk : l.length ≤ 1000000000) (hD : ∀ x ∈ l, ∀ y ∈ m, Does X fn [.agg (fD x), .agg (fD y)] [] (.ret (vB (R x y)) [])) (K : Ex → St → Id.T Out) (Q : Out → Prop)
    (hE : all2 R l m = true → WP X (K (.exit 0) ⟨[], []⟩) Q) (hR : all2 R l m = false → WP X (K .ret ⟨[(6, .lit false)], []⟩) Q) :
    ∀ (r p s q : List TFunc), l = p ++ r → m = q ++ s → p.length = q.length → r.length = s.length → all2 R l m = all2 R r s → ∀ σ : St, getT σ.t 1 = .d (.sl 6 (m.map fun x => fD x)) → getT σ.t 2 = .fn fn [] [] → getT σ.t 15 = .d (.sl 6 (l.map fun x => fD x)) → getT σ.t 16 = vI (l.map fun x => fD x).length → getT σ.t 17 = vI p.length → WP X (.loop (lp Tryz.f35 0) σ K) Q
  | r, p, s, q, h, h', hpq, hrs, ha, σ, g1, g2, g15, g16, g17 => by
    refine WP.round ⟨[(1, .d (.sl 6 (m.map fun x => fD x))), (2, .fn fn [] []), (15, .d (.sl 6 (l.map fun x => fD x))), (16, vI (l.map fun x => fD x).length), (17, vI p.length)], []⟩ ⟨⟨.inl g1.symm, .inl g2.symm, .inl g15.symm, .inl g16.symm, .inl g17.symm, trivial⟩, trivial⟩ ?_
    have hlen : l.length = p.length + r.length := by rw [h]; simp
    have hsl : (l.map fun x => fD x).length = l.length := by simp
    cases r with
    | nil =>
      cases s with
      | cons _ _ => simp at hrs
      | nil =>
        refine WP.iteF (by rw [hsl]; simp at hlen; simp; omega) ?_
        exact WP.leaf ⟨⟨[], []⟩, ⟨trivial, trivial⟩, hE (by rw [ha]; rfl)⟩
    | cons x r =>
      cases s with
      | nil => simp at hrs
      | cons y s =>
        simp only [List.length_cons] at hlen hrs
        rw [all2] at ha
        refine WP.iteT (by rw [hsl]; simp; omega) ?_
        refine WP.idx _ (by omega) (map_get (fun x => fD x) h) ?_
        refine WP.idx _ (by omega) (by rw [hpq]; exact map_get (fun x => fD x) h') ?_
        refine WP.use1 (hD x (by rw [h]; simp) y (by rw [h']; simp)) ?_
        cases hxy : R x y with
        | false =>
          rw [hxy] at ha
          refine WP.iteT rfl ?_
          exact WP.leaf ⟨⟨[(6, .lit false)], []⟩, ⟨⟨.inl rfl, trivial⟩, trivial⟩, hR ha⟩
        | true =>
          rw [hxy] at ha
          refine WP.iteF rfl ?_
          refine WP.leaf ?_
          refine eqfF_loop R fn l m hk hD K Q hE hR r (p ++ [x]) s (q ++ [y]) (by rw [h]; simp) (by rw [h']; simp) (by simp [hpq]) (by omega) ha _ rfl rfl rfl rfl ?_
          show vI (IntKind.i64.wrap ((p.length : Int) + 1)) = _
          rw [wrapI (by omega) (by omega)]; simp
theorem eqfF (R : TFunc → TFunc → Bool) (fn : FuncId) (l m : List TFunc) (hk : l.length ≤ 1000000000) (hD : ∀ x ∈ l, ∀ y ∈ m, Does X fn [.agg (fD x), .agg (fD y)] [] (.ret (vB (R x y)) [])) : Does X 35 [.d (.sl 6 (l.map fun x => fD x)), .d (.sl 6 (m.map fun x => fD x)), .fn fn [] []] [] (.ret (vB (all2 R l m)) []) := by
  refine DoesQ.eq (DoesQ.of Tryz.func35 (by kernel_rfl) ?_)
  have hsl : (l.map fun x => fD x).length = l.length := by simp
  have hsm : (m.map fun x => fD x).length = m.length := by simp
  by_cases hlm : l.length = m.length
  · refine WP.iteF (by rw [hsl, hsm]; simp; omega) ?_
    refine eqfF_loop R fn l m hk hD _ _ ?_ ?_ l [] m [] rfl rfl rfl hlm rfl _ rfl rfl rfl rfl rfl
    · intro h; exact WP.leaf (by rw [h])
    · intro h; exact WP.leaf (by rw [h])
  · refine WP.iteT (by rw [hsl, hsm]; simp; omega) ?_
    exact WP.leaf (by rw [all2_len hlm])
set_option maxHeartbeats 2000000 in
theorem eqfE_loop (R : TExpr → TExpr → Bool) (fn : FuncId) (l m : List TExpr) (hk : l.length ≤ 1000000000) (hD : ∀ x ∈ l, ∀ y ∈ m, Does X fn [.agg (eD x), .agg (eD y)] [] (.ret (vB (R x y)) [])) (K : Ex → St → Id.T Out) (Q : Out → Prop)
    (hE : all2 R l m = true → WP X (K (.exit 0) ⟨[], []⟩) Q) (hR : all2 R l m = false → WP X (K .ret ⟨[(6, .lit false)], []⟩) Q) :
    ∀ (r p s q : List TExpr), l = p ++ r → m = q ++ s → p.length = q.length → r.length = s.length → all2 R l m = all2 R r s → ∀ σ : St, getT σ.t 1 = .d (.sl 10 (m.map fun x => eD x)) → getT σ.t 2 = .fn fn [] [] → getT σ.t 15 = .d (.sl 10 (l.map fun x => eD x)) → getT σ.t 16 = vI (l.map fun x => eD x).length → getT σ.t 17 = vI p.length → WP X (.loop (lp Tryz.f41 0) σ K) Q
  | r, p, s, q, h, h', hpq, hrs, ha, σ, g1, g2, g15, g16, g17 => by
    refine WP.round ⟨[(1, .d (.sl 10 (m.map fun x => eD x))), (2, .fn fn [] []), (15, .d (.sl 10 (l.map fun x => eD x))), (16, vI (l.map fun x => eD x).length), (17, vI p.length)], []⟩ ⟨⟨.inl g1.symm, .inl g2.symm, .inl g15.symm, .inl g16.symm, .inl g17.symm, trivial⟩, trivial⟩ ?_
    have hlen : l.length = p.length + r.length := by rw [h]; simp
    have hsl : (l.map fun x => eD x).length = l.length := by simp
    cases r with
    | nil =>
      cases s with
      | cons _ _ => simp at hrs
      | nil =>
        refine WP.iteF (by rw [hsl]; simp at hlen; simp; omega) ?_
        exact WP.leaf ⟨⟨[], []⟩, ⟨trivial, trivial⟩, hE (by rw [ha]; rfl)⟩
    | cons x r =>
      cases s with
      | nil => simp at hrs
      | cons y s =>
        simp only [List.length_cons] at hlen hrs
        rw [all2] at ha
        refine WP.iteT (by rw [hsl]; simp; omega) ?_
        refine WP.idx _ (by omega) (map_get (fun x => eD x) h) ?_
        refine WP.idx _ (by omega) (by rw [hpq]; exact map_get (fun x => eD x) h') ?_
        refine WP.use1 (hD x (by rw [h]; simp) y (by rw [h']; simp)) ?_
        cases hxy : R x y with
        | false =>
          rw [hxy] at ha
          refine WP.iteT rfl ?_
          exact WP.leaf ⟨⟨[(6, .lit false)], []⟩, ⟨⟨.inl rfl, trivial⟩, trivial⟩, hR ha⟩
        | true =>
          rw [hxy] at ha
          refine WP.iteF rfl ?_
          refine WP.leaf ?_
          refine eqfE_loop R fn l m hk hD K Q hE hR r (p ++ [x]) s (q ++ [y]) (by rw [h]; simp) (by rw [h']; simp) (by simp [hpq]) (by omega) ha _ rfl rfl rfl rfl ?_
          show vI (IntKind.i64.wrap ((p.length : Int) + 1)) = _
          rw [wrapI (by omega) (by omega)]; simp
theorem eqfE (R : TExpr → TExpr → Bool) (fn : FuncId) (l m : List TExpr) (hk : l.length ≤ 1000000000) (hD : ∀ x ∈ l, ∀ y ∈ m, Does X fn [.agg (eD x), .agg (eD y)] [] (.ret (vB (R x y)) [])) : Does X 41 [.d (.sl 10 (l.map fun x => eD x)), .d (.sl 10 (m.map fun x => eD x)), .fn fn [] []] [] (.ret (vB (all2 R l m)) []) := by
  refine DoesQ.eq (DoesQ.of Tryz.func41 (by kernel_rfl) ?_)
  have hsl : (l.map fun x => eD x).length = l.length := by simp
  have hsm : (m.map fun x => eD x).length = m.length := by simp
  by_cases hlm : l.length = m.length
  · refine WP.iteF (by rw [hsl, hsm]; simp; omega) ?_
    refine eqfE_loop R fn l m hk hD _ _ ?_ ?_ l [] m [] rfl rfl rfl hlm rfl _ rfl rfl rfl rfl rfl
    · intro h; exact WP.leaf (by rw [h])
    · intro h; exact WP.leaf (by rw [h])
  · refine WP.iteT (by rw [hsl, hsm]; simp; omega) ?_
    exact WP.leaf (by rw [all2_len hlm])
set_option maxHeartbeats 2000000 in
theorem eqfS_loop (R : TStmt → TStmt → Bool) (fn : FuncId) (l m : List TStmt) (hk : l.length ≤ 1000000000) (hD : ∀ x ∈ l, ∀ y ∈ m, Does X fn [.agg (sD x), .agg (sD y)] [] (.ret (vB (R x y)) [])) (K : Ex → St → Id.T Out) (Q : Out → Prop)
    (hE : all2 R l m = true → WP X (K (.exit 0) ⟨[], []⟩) Q) (hR : all2 R l m = false → WP X (K .ret ⟨[(6, .lit false)], []⟩) Q) :
    ∀ (r p s q : List TStmt), l = p ++ r → m = q ++ s → p.length = q.length → r.length = s.length → all2 R l m = all2 R r s → ∀ σ : St, getT σ.t 1 = .d (.sl 16 (m.map fun x => sD x)) → getT σ.t 2 = .fn fn [] [] → getT σ.t 15 = .d (.sl 16 (l.map fun x => sD x)) → getT σ.t 16 = vI (l.map fun x => sD x).length → getT σ.t 17 = vI p.length → WP X (.loop (lp Tryz.f38 0) σ K) Q
  | r, p, s, q, h, h', hpq, hrs, ha, σ, g1, g2, g15, g16, g17 => by
    refine WP.round ⟨[(1, .d (.sl 16 (m.map fun x => sD x))), (2, .fn fn [] []), (15, .d (.sl 16 (l.map fun x => sD x))), (16, vI (l.map fun x => sD x).length), (17, vI p.length)], []⟩ ⟨⟨.inl g1.symm, .inl g2.symm, .inl g15.symm, .inl g16.symm, .inl g17.symm, trivial⟩, trivial⟩ ?_
    have hlen : l.length = p.length + r.length := by rw [h]; simp
    have hsl : (l.map fun x => sD x).length = l.length := by simp
    cases r with
    | nil =>
      cases s with
      | cons _ _ => simp at hrs
      | nil =>
        refine WP.iteF (by rw [hsl]; simp at hlen; simp; omega) ?_
        exact WP.leaf ⟨⟨[], []⟩, ⟨trivial, trivial⟩, hE (by rw [ha]; rfl)⟩
    | cons x r =>
      cases s with
      | nil => simp at hrs
      | cons y s =>
        simp only [List.length_cons] at hlen hrs
        rw [all2] at ha
        refine WP.iteT (by rw [hsl]; simp; omega) ?_
        refine WP.idx _ (by omega) (map_get (fun x => sD x) h) ?_
        refine WP.idx _ (by omega) (by rw [hpq]; exact map_get (fun x => sD x) h') ?_
        refine WP.use1 (hD x (by rw [h]; simp) y (by rw [h']; simp)) ?_
        cases hxy : R x y with
        | false =>
          rw [hxy] at ha
          refine WP.iteT rfl ?_
          exact WP.leaf ⟨⟨[(6, .lit false)], []⟩, ⟨⟨.inl rfl, trivial⟩, trivial⟩, hR ha⟩
        | true =>
          rw [hxy] at ha
          refine WP.iteF rfl ?_
          refine WP.leaf ?_
          refine eqfS_loop R fn l m hk hD K Q hE hR r (p ++ [x]) s (q ++ [y]) (by rw [h]; simp) (by rw [h']; simp) (by simp [hpq]) (by omega) ha _ rfl rfl rfl rfl ?_
          show vI (IntKind.i64.wrap ((p.length : Int) + 1)) = _
          rw [wrapI (by omega) (by omega)]; simp
theorem eqfS (R : TStmt → TStmt → Bool) (fn : FuncId) (l m : List TStmt) (hk : l.length ≤ 1000000000) (hD : ∀ x ∈ l, ∀ y ∈ m, Does X fn [.agg (sD x), .agg (sD y)] [] (.ret (vB (R x y)) [])) : Does X 38 [.d (.sl 16 (l.map fun x => sD x)), .d (.sl 16 (m.map fun x => sD x)), .fn fn [] []] [] (.ret (vB (all2 R l m)) []) := by
  refine DoesQ.eq (DoesQ.of Tryz.func38 (by kernel_rfl) ?_)
  have hsl : (l.map fun x => sD x).length = l.length := by simp
  have hsm : (m.map fun x => sD x).length = m.length := by simp
  by_cases hlm : l.length = m.length
  · refine WP.iteF (by rw [hsl, hsm]; simp; omega) ?_
    refine eqfS_loop R fn l m hk hD _ _ ?_ ?_ l [] m [] rfl rfl rfl hlm rfl _ rfl rfl rfl rfl rfl
    · intro h; exact WP.leaf (by rw [h])
    · intro h; exact WP.leaf (by rw [h])
  · refine WP.iteT (by rw [hsl, hsm]; simp; omega) ?_
    exact WP.leaf (by rw [all2_len hlm])
set_option maxHeartbeats 2000000 in
theorem eqp_loop (l m : List TParam) (hk : l.length ≤ 1000000000) (K : Ex → St → Id.T Out) (Q : Out → Prop)
    (hE : all2 seP l m = true → WP X (K (.exit 0) ⟨[], []⟩) Q) (hR : all2 seP l m = false → WP X (K .ret ⟨[(4, .lit false)], []⟩) Q) :
    ∀ (r p s q : List TParam), l = p ++ r → m = q ++ s → p.length = q.length → r.length = s.length → all2 seP l m = all2 seP r s → ∀ σ : St, getT σ.t 0 = .d (.sl 2 (psD l)) → getT σ.t 1 = .d (.sl 2 (psD m)) → getT σ.t 12 = vI (psD l).length → getT σ.t 13 = vI p.length → WP X (.loop (lp Tryz.f37 0) σ K) Q
  | r, p, s, q, h, h', hpq, hrs, ha, σ, g0, g1, g12, g13 => by
    refine WP.round ⟨[(0, .d (.sl 2 (psD l))), (1, .d (.sl 2 (psD m))), (12, vI (psD l).length), (13, vI p.length)], []⟩ ⟨⟨.inl g0.symm, .inl g1.symm, .inl g12.symm, .inl g13.symm, trivial⟩, trivial⟩ ?_
    have hlen : l.length = p.length + r.length := by rw [h]; simp
    have hsl : (psD l).length = l.length := by simp
    cases r with
    | nil =>
      cases s with
      | cons _ _ => simp at hrs
      | nil =>
        refine WP.iteF (by rw [hsl]; simp at hlen; simp; omega) ?_
        exact WP.leaf ⟨⟨[], []⟩, ⟨trivial, trivial⟩, hE (by rw [ha]; rfl)⟩
    | cons x r =>
      cases s with
      | nil => simp at hrs
      | cons y s =>
        simp only [List.length_cons] at hlen hrs
        rw [all2] at ha
        have hnext : seP x y = true → ∀ σ : St, getT σ.t 0 = .d (.sl 2 (psD l)) → getT σ.t 1 = .d (.sl 2 (psD m)) → getT σ.t 12 = vI (psD l).length → getT σ.t 13 = vI (IntKind.i64.wrap ((p.length : Int) + 1)) → WP X (.loop (lp Tryz.f37 0) σ K) Q := fun hxy σ g0 g1 g12 g13 => by
          refine eqp_loop l m hk K Q hE hR r (p ++ [x]) s (q ++ [y]) (by rw [h]; simp) (by rw [h']; simp) (by simp [hpq]) (by omega) (by rw [ha, hxy]; rfl) σ g0 g1 g12 ?_
          rw [g13, wrapI (by omega) (by omega)]; simp
        have hno : seP x y = false → all2 seP l m = false := fun hxy => by rw [ha, hxy]; rfl
        refine WP.iteT (by rw [hsl]; simp; omega) ?_
        refine WP.asrt (by kernel_rfl) ?_
        refine WP.idx _ (by omega) (map_get (fun x => pD x) h) ?_
        refine WP.idx _ (by omega) (by rw [hpq]; exact map_get (fun x => pD x) h') ?_
        repeat' first | refine WP.asrt (by kernel_rfl) ?_ | refine WP.ite (fun _ => ?_) (fun _ => ?_) | exact WP.leaf ⟨⟨[(4, .lit false)], []⟩, ⟨⟨.inl rfl, trivial⟩, trivial⟩, hR (hno (by
          cases hs : seP x y with
          | false => rfl
          | true => (unfold seP at hs; simp_all)))⟩ | exact WP.leaf (hnext (by unfold seP; simp_all) _ rfl rfl rfl rfl)
theorem eqp (l m : List TParam) (hk : l.length ≤ 1000000000) : Does X 37 [.d (.sl 2 (psD l)), .d (.sl 2 (psD m))] [] (.ret (vB (all2 seP l m)) []) := by
  refine DoesQ.eq (DoesQ.of Tryz.func37 (by kernel_rfl) ?_)
  have hsl : (psD l).length = l.length := by simp
  have hsm : (psD m).length = m.length := by simp
  by_cases hlm : l.length = m.length
  · refine WP.iteF (by rw [hsl, hsm]; simp; omega) ?_
    refine eqp_loop l m hk _ _ ?_ ?_ l [] m [] rfl rfl rfl hlm rfl _ rfl rfl rfl rfl
    · intro h; exact WP.leaf (by rw [h])
    · intro h; exact WP.leaf (by rw [h])
  · refine WP.iteT (by rw [hsl, hsm]; simp; omega) ?_
    exact WP.leaf (by rw [all2_len hlm])
end
end Go.Proofs.YtaddhpeainliiaaGreatDoor.Id
/-! ## PrSb -/
namespace Go.Proofs.YtaddhpeainliiaaGreatDoor.Id
open Go
set_option linter.unusedVariables false
set_option linter.unusedSimpArgs false
set_option maxRecDepth 100000
section
variable {X : Given}
theorem dsAll_mapE : ∀ l : List TExpr, dsAll l = l.map fun x => eD x
  | [] => rfl
  | x :: r => by rw [dsAll_cons, dsAll_mapE r]; rfl
set_option maxHeartbeats 4000000 in
theorem psame_e : ∀ (n : Nat) (a b : TExpr), SizeOf.sizeOf a < n → smE a → Does X 13 [.agg (eD a), .agg (eD b)] [] (.ret (vB (seE a b)) [])
  | 0, a, b, h, _ => absurd h (Nat.not_lt_zero _)
  | n + 1, .mk k a of nm v op kids, .mk k' a' of' nm' v' op' kids', hn, hs => by
    rw [smE] at hs
    simp only [TExpr.mk.sizeOf_spec] at hn
    have hk := eqfE (X := X) seE 13 kids kids' hs.2.2.1 (fun x hx y _ => psame_e n x y (by have := List.sizeOf_lt_of_mem hx; omega) (smEs_mem hs.2.2.2 hx))
    rw [← dsAll_mapE, ← dsAll_mapE] at hk
    obtain ⟨v1, v2, v3, v4⟩ := v
    obtain ⟨w1, w2, w3, w4⟩ := v'
    refine DoesQ.eq (DoesQ.of Tryz.func13 (by kernel_rfl) ?_)
    clear hn hs
    dsimp only [eD, TExpr.k, TExpr.a, TExpr.of, TExpr.nm, TExpr.v, TExpr.op, TExpr.kids]
    rw [seE_eq]
    dsimp only [TExpr.k, TExpr.a, TExpr.of, TExpr.nm, TExpr.v, TExpr.op, TExpr.kids]
    repeat' first | refine WP.iteT (by assumption) ?_ | refine WP.iteF (by assumption) ?_ | refine WP.ite (fun _ => ?_) (fun _ => ?_) | refine WP.leaf ?_ | refine WP.use1 hk ?_ | refine WP.asrt (by kernel_rfl) ?_
    all_goals
      clear hk
      refine congrArg (fun b => Out.ret (vB b) []) ?_
      unfold seV
      simp_all
theorem psameE (a b : TExpr) (h : smE a) : Does X 13 [.agg (eD a), .agg (eD b)] [] (.ret (vB (seE a b)) []) := psame_e _ a b (Nat.lt_succ_self _) h
set_option maxHeartbeats 4000000 in
theorem psame_s : ∀ (n : Nat) (a b : TStmt), SizeOf.sizeOf a < n → smS a → Does X 39 [.agg (sD a), .agg (sD b)] [] (.ret (vB (seS a b)) [])
  | 0, a, b, h, _ => absurd h (Nat.not_lt_zero _)
  | n + 1, .mk k a nm e body els he, .mk k' a' nm' e' body' els' he', hn, hs => by
    rw [smS] at hs
    simp only [TStmt.mk.sizeOf_spec] at hn
    have hb := eqfS (X := X) seS 39 body body' hs.2.2.1 (fun x hx y _ => psame_s n x y (by have := List.sizeOf_lt_of_mem hx; omega) (smSs_mem hs.2.2.2.2.1 hx))
    have hl := eqfS (X := X) seS 39 els els' hs.2.2.2.1 (fun x hx y _ => psame_s n x y (by have := List.sizeOf_lt_of_mem hx; omega) (smSs_mem hs.2.2.2.2.2 hx))
    rw [← ssAll_map, ← ssAll_map] at hb hl
    have hE := psameE (X := X) e e' hs.2.1
    refine DoesQ.eq (DoesQ.of Tryz.func39 (by kernel_rfl) ?_)
    clear hn hs
    dsimp only [sD, TStmt.k, TStmt.a, TStmt.nm, TStmt.e, TStmt.body, TStmt.els, TStmt.he]
    rw [seS_eq]
    dsimp only [TStmt.k, TStmt.a, TStmt.nm, TStmt.e, TStmt.body, TStmt.els, TStmt.he]
    repeat' first | refine WP.iteT (by assumption) ?_ | refine WP.iteF (by assumption) ?_ | refine WP.ite (fun _ => ?_) (fun _ => ?_) | refine WP.leaf ?_ | refine WP.use1 hE ?_ | refine WP.use1 hb ?_ | refine WP.use1 hl ?_ | refine WP.asrt (by kernel_rfl) ?_
    all_goals
      clear hb hl hE
      refine congrArg (fun b => Out.ret (vB b) []) ?_
      simp_all
theorem psameS (a b : TStmt) (h : smS a) : Does X 39 [.agg (sD a), .agg (sD b)] [] (.ret (vB (seS a b)) []) := psame_s _ a b (Nat.lt_succ_self _) h
theorem psame_i (a b : TIncl) : Does X 32 [.agg (iD a), .agg (iD b)] [] (.ret (vB (seI a b)) []) := by
  refine DoesQ.eq (DoesQ.of Tryz.func32 (by kernel_rfl) ?_)
  repeat' first | refine WP.iteT (by assumption) ?_ | refine WP.iteF (by assumption) ?_ | refine WP.ite (fun _ => ?_) (fun _ => ?_) | refine WP.leaf ?_ | refine WP.asrt (by kernel_rfl) ?_
  all_goals
    refine congrArg (fun b => Out.ret (vB b) []) ?_
    unfold seI
    simp_all
theorem psame_c (a b : TCons) (h : smE a.e) : Does X 34 [.agg (cD a), .agg (cD b)] [] (.ret (vB (seC a b)) []) := by
  have hE := psameE (X := X) a.e b.e h
  refine DoesQ.eq (DoesQ.of Tryz.func34 (by kernel_rfl) ?_)
  repeat' first | refine WP.iteT (by assumption) ?_ | refine WP.iteF (by assumption) ?_ | refine WP.ite (fun _ => ?_) (fun _ => ?_) | refine WP.leaf ?_ | refine WP.use1 hE ?_ | refine WP.asrt (by kernel_rfl) ?_
  all_goals
    clear hE
    refine congrArg (fun b => Out.ret (vB b) []) ?_
    unfold seC
    simp_all
theorem psame_f (a b : TFunc) (h : SmF a) : Does X 36 [.agg (fD a), .agg (fD b)] [] (.ret (vB (seF a b)) []) := by
  have hb := eqfS (X := X) seS 39 a.body b.body h.nb (fun x hx y _ => psameS x y (smSs_mem h.body hx))
  rw [← ssAll_map, ← ssAll_map] at hb
  have hp := eqp (X := X) a.ps b.ps h.np
  refine DoesQ.eq (DoesQ.of Tryz.func36 (by kernel_rfl) ?_)
  clear h
  repeat' first | refine WP.iteT (by assumption) ?_ | refine WP.iteF (by assumption) ?_ | refine WP.ite (fun _ => ?_) (fun _ => ?_) | refine WP.leaf ?_ | refine WP.use1 hb ?_ | refine WP.use1 hp ?_ | refine WP.asrt (by kernel_rfl) ?_
  all_goals
    clear hb hp
    refine congrArg (fun b => Out.ret (vB b) []) ?_
    unfold seF
    simp_all
theorem psameM (a b : TMod) (h : SmM a) : Does X 11 [.agg (mD a), .agg (mD b)] [] (.ret (vB (seM a b)) []) := by
  have hi := eqfI (X := X) seI 32 a.is b.is h.ni (fun x _ y _ => psame_i x y)
  have hc := eqfC (X := X) seC 34 a.cs b.cs h.nc (fun x hx y _ => psame_c x y (h.cs x hx).2)
  have hf := eqfF (X := X) seF 36 a.fs b.fs h.nf (fun x hx y _ => psame_f x y (h.fs x hx))
  refine DoesQ.eq (DoesQ.of Tryz.func11 (by kernel_rfl) ?_)
  clear h
  repeat' first | refine WP.iteT (by assumption) ?_ | refine WP.iteF (by assumption) ?_ | refine WP.ite (fun _ => ?_) (fun _ => ?_) | refine WP.leaf ?_ | refine WP.use1 hi ?_ | refine WP.use1 hc ?_ | refine WP.use1 hf ?_ | refine WP.asrt (by kernel_rfl) ?_
  all_goals
    clear hi hc hf
    refine congrArg (fun b => Out.ret (vB b) []) ?_
    unfold seM
    simp_all
end
end Go.Proofs.YtaddhpeainliiaaGreatDoor.Id
/-! ## PrT -/
namespace Go.Proofs.YtaddhpeainliiaaGreatDoor.Id
open Go
set_option linter.unusedVariables false
set_option linter.unusedSimpArgs false
set_option maxRecDepth 100000
abbrev v7 : TVal := ⟨1, 7, false, .empty⟩
abbrev e7 : TExpr := .mk 1 0 .empty .empty v7 0 []
abbrev m7 : TMod := ⟨[], [⟨mkB [99], false, 0, e7⟩], []⟩
abbrev m0 : TMod := ⟨[], [], []⟩
theorem lit7 : litP v7 = [55] := by
  unfold litP
  rw [if_pos rfl, if_pos (by decide)]
  show Lib.itoa 7 = [55]
  unfold Lib.itoa
  rw [if_neg (by decide), Lib.decDigits, dif_pos (by decide)]
  rfl
theorem rE7 (t : Bool) : rE litP e7 t = [55] := by rw [rE]; unfold rNode; rw [if_pos rfl]; exact lit7
theorem rM7 (t : Bool) : rM litP qtP m7 t = yConst ++ (32 :: ([99] ++ (gp t ++ (61 :: (gp t ++ ([55] ++ (59 :: nl t))))))) := by
  unfold rM rC rExp
  simp only [List.map_nil, List.map_cons, rIt, rFs, rE7, L_mkB]
  simp
theorem right7 : rightM m7 = true := by decide +kernel
theorem up7 : upM m7 = 0 := by decide +kernel
theorem sm7 : SzM m7 := ⟨⟨by decide, by decide, by decide, fun x h => (by cases h), fun c h => (by
    rw [List.mem_singleton] at h
    subst h
    refine ⟨by decide, ?_⟩
    show smE e7
    rw [smE]
    exact ⟨by decide, by decide, by decide, trivial⟩), fun f h => (by cases h)⟩, ⟨fun c h => (by
    rw [List.mem_singleton] at h
    subst h
    show rgE e7
    rw [rgE, rgEs]
    exact ⟨by show (7 : Int) ≤ _; decide, trivial⟩), fun f h => (by cases h)⟩, by decide⟩
theorem form7 (t : Bool) : formS m7 t = mkB (yConst ++ (32 :: ([99] ++ (gp t ++ (61 :: (gp t ++ ([55] ++ (59 :: nl t)))))))) ∧ formN m7 t = 0 := by
  unfold formS formN
  rw [if_pos right7, if_pos right7, up7, rM7, if_neg (by decide), if_neg (by cases t <;> decide), if_neg (by decide), if_neg (by cases t <;> decide)]
  exact ⟨rfl, rfl⟩
section
variable {X : Given}
set_option maxHeartbeats 4000000 in
theorem alive_does (hL : LibX X) (hW : WrOK X) : Does X 15 [] [] (.ret (vB true) []) := by
  have d1 := pmodule_does hL hW sm7
  have d2 := ptight_does hL hW sm7
  rw [(form7 false).1, (form7 false).2] at d1
  rw [(form7 true).1, (form7 true).2] at d2
  have d3 := psameM (X := X) m7 m7 sm7.sm
  rw [seM_refl] at d3
  have d4 := psameM (X := X) m7 m0 sm7.sm
  rw [show seM m7 m0 = false from rfl] at d4
  refine DoesQ.eq (DoesQ.of Tryz.func15 (by kernel_rfl) ?_)
  refine WP.use1 d1 ?_
  refine WP.use1 d2 ?_
  refine WP.iteT rfl ?_
  refine WP.iteT rfl ?_
  refine WP.iteT (by decide +kernel) ?_
  refine WP.iteT (by decide +kernel) ?_
  refine WP.use1 d3 ?_
  refine WP.iteT rfl ?_
  refine WP.use1 d4 ?_
  exact WP.leaf rfl
end
end Go.Proofs.YtaddhpeainliiaaGreatDoor.Id
/-! ## PrWc -/
namespace Go.Proofs.YtaddhpeainliiaaGreatDoor.Id
open Go
set_option linter.unusedVariables false
set_option linter.unusedSimpArgs false
set_option maxRecDepth 100000
section
variable {X : Given}
theorem rF_eq (f : TFunc) (t : Bool) : rF litP f t = rExp f.ex (rHead f t ++ (rRes f.res t ++ gp t)) ++ (rBlk (rSs litP f.body) t 0 ++ nl t) := by
  unfold rF rExp
  split <;> simp
theorem rF_ne (f : TFunc) (t : Bool) : rF litP f t ≠ [] := by
  unfold rF rExp rHead
  split <;> simp
/-- a function by the document -/
def RFunOK (X : Given) (t : Bool) (f : TFunc) : Prop := Does X 104 [.agg (fD f), .agg (fmD t)] [] (.ret (vS (mkB (rExp f.ex (rHead f t ++ (rRes f.res t ++ gp t))))) []) ∧ Does X 105 [.d (.sl 16 (ssAll f.body)), .agg (fmD t), vS (mkB (tb t 0))] [] (.ret (vS (mkB (rBlk (rSs litP f.body) t 0))) [])
set_option maxHeartbeats 4000000 in
theorem rtx_f (m : TMod) (hk : m.fs.length ≤ 1000000000) (t : Bool) (hfu : ∀ x ∈ m.fs, RFunOK X t x) (F : List UInt8) (hF : F.length ≤ lenMax) (K : Ex → St → Id.T Out) (Q : Out → Prop)
    (hK : ∀ s, L s = F → WP X (K (.exit 4) ⟨[(5, vS s)], []⟩) Q) :
    ∀ (r p : List TFunc) (s : ByteArray) (sep : Bool), m.fs = p ++ r → (sep = true ↔ L s ≠ []) → L s ++ rFs (r.map (rF litP)) sep t = F → ∀ σ : St, getT σ.t 2 = .box 2 0 → getT σ.t 3 = .box 3 0 → getT σ.t 5 = vS s → getT σ.t 11 = vI p.length → getB σ.b 2 = some (mV m) → getB σ.b 3 = some (fmV t) → WP X (.loop (lp Tryz.f64 2) σ K) Q
  | r, p, s, sep, h, hsep, hs, σ, g2, g3, g5, g6, gb2, gb3 => by
    refine WP.round ⟨[(2, .box 2 0), (3, .box 3 0), (5, vS s), (11, vI p.length)], txB m t⟩ ⟨⟨.inl g2.symm, .inl g3.symm, .inl g5.symm, .inl g6.symm, trivial⟩, ⟨WkB.box gb2, WkB.box gb3, trivial⟩⟩ ?_
    have hlen : m.fs.length = p.length + r.length := by rw [h]; simp
    have hsl : (fsD m.fs).length = m.fs.length := by simp
    have hsz : s.size + (rFs (r.map (rF litP)) sep t).length ≤ lenMax := by rw [← L_length, ← List.length_append, hs]; exact hF
    unfold lenMax at hsz
    cases r with
    | nil =>
      refine WP.iteF (by rw [hsl]; simp at hlen; simp; omega) ?_
      rw [List.map_nil, rFs, List.append_nil] at hs
      exact WP.leaf ⟨⟨[(5, vS s)], []⟩, ⟨⟨.inl rfl, trivial⟩, trivial⟩, hK s hs⟩
    | cons y r =>
      simp only [List.length_cons] at hlen
      obtain ⟨d1, d2⟩ := hfu y (by rw [h]; simp)
      have i1 : (fsD m.fs)[((p.length : Int)).toNat]? = some (fD y) := map_get (fun x => fD x) h
      have hn := nl_len t
      have m2 := mkB_size (nl t)
      obtain ⟨A, hA⟩ : ∃ A, A = rExp y.ex (rHead y t ++ (rRes y.res t ++ gp t)) := ⟨_, rfl⟩
      obtain ⟨B, hB⟩ : ∃ B, B = rBlk (rSs litP y.body) t 0 := ⟨_, rfl⟩
      have hAB : rF litP y t = A ++ (B ++ nl t) := by rw [hA, hB]; exact rF_eq y t
      rw [← hA] at d1
      rw [← hB] at d2
      have e0 : mkB (tb t 0) = (⟨#[]⟩ : ByteArray) := by cases t <;> rfl
      rw [e0] at d2
      have m3 := mkB_size A
      have m4 := mkB_size B
      rw [List.map_cons, rFs, hAB] at hs hsz
      simp only [List.length_append] at hsz
      have hnext : ∀ (s1 : ByteArray) (σ : St), L s1 ≠ [] → L s1 ++ rFs (r.map (rF litP)) true t = F → getT σ.t 2 = .box 2 0 → getT σ.t 3 = .box 3 0 → getT σ.t 5 = vS s1 → getT σ.t 11 = vI (IntKind.i64.wrap ((p.length : Int) + 1)) → getB σ.b 2 = some (mV m) → getB σ.b 3 = some (fmV t) → WP X (.loop (lp Tryz.f64 2) σ K) Q := fun s1 σ hne hs1 g2 g3 g5 g6 gb2 gb3 => by
        refine rtx_f m hk t hfu F hF K Q hK r (p ++ [y]) s1 true (by rw [h]; simp) ⟨fun _ => hne, fun _ => rfl⟩ hs1 σ g2 g3 g5 ?_ gb2 gb3
        rw [g6, wrapI (by omega) (by omega)]; simp
      have z1 : (mkB A).size + (mkB B).size ≤ 9223372036854775807 := by omega
      have z2 : (mkB A ++ mkB B).size + (mkB (nl t)).size ≤ 9223372036854775807 := by simp only [ByteArray.size_append]; omega
      have hne : ∀ s0 : ByteArray, L (s0 ++ (mkB A ++ mkB B ++ mkB (nl t))) ≠ [] := fun s0 e => by
        simp only [L_append, L_mkB, List.append_eq_nil_iff] at e
        exact rF_ne y t (by rw [hAB, e.2.1.1, e.2.1.2, e.2.2]; rfl)
      refine WP.iteT (by rw [hsl]; simp; omega) ?_
      cases sep with
      | true =>
        have hs0 : ¬ s = ByteArray.empty := fun e => (hsep.1 rfl) (by rw [e]; rfl)
        rw [if_pos rfl] at hs hsz
        have z3 : s.size + (mkB (nl t)).size ≤ 9223372036854775807 := by omega
        have z4 : (s ++ mkB (nl t)).size + (mkB A ++ mkB B ++ mkB (nl t)).size ≤ 9223372036854775807 := by simp only [ByteArray.size_append]; omega
        refine WP.iteT (by rw [bytes_empty]; simp; exact hs0) ?_
        refine WP.asrt z3 ?_
        refine WP.asrt (by kernel_rfl) ?_
        refine WP.idx _ (by omega) i1 ?_
        refine WP.use1 d1 ?_
        refine WP.idx _ (by omega) i1 ?_
        refine WP.use1 d2 ?_
        refine WP.asrt z1 ?_
        refine WP.asrt z2 ?_
        refine WP.asrt z4 ?_
        refine WP.asrt (by kernel_rfl) ?_
        exact WP.leaf (hnext (s ++ mkB (nl t) ++ (mkB A ++ mkB B ++ mkB (nl t))) _ (hne _) (by rw [← hs]; simp only [L_append, L_mkB, List.append_assoc]) rfl rfl rfl rfl rfl rfl)
      | false =>
        have hs0 : s = ByteArray.empty := by
          have : ¬ L s ≠ [] := fun e => by have := hsep.2 e; cases this
          have : L s = [] := by simpa using this
          rw [← mkB_L s, this]; rfl
        rw [if_neg (by decide), List.nil_append] at hs
        have z4 : s.size + (mkB A ++ mkB B ++ mkB (nl t)).size ≤ 9223372036854775807 := by simp only [ByteArray.size_append]; omega
        refine WP.iteF (by rw [bytes_empty]; simp; exact hs0) ?_
        refine WP.asrt (by kernel_rfl) ?_
        refine WP.idx _ (by omega) i1 ?_
        refine WP.use1 d1 ?_
        refine WP.idx _ (by omega) i1 ?_
        refine WP.use1 d2 ?_
        refine WP.asrt z1 ?_
        refine WP.asrt z2 ?_
        refine WP.asrt z4 ?_
        refine WP.asrt (by kernel_rfl) ?_
        exact WP.leaf (hnext (s ++ (mkB A ++ mkB B ++ mkB (nl t))) _ (hne _) (by rw [← hs]; simp only [L_append, L_mkB, List.append_assoc]) rfl rfl rfl rfl rfl rfl)
set_option maxHeartbeats 4000000 in
theorem rtext_does (hP : LibP X) {m : TMod} (hr : rightM m = true) (hs : SzM m) (t : Bool) : Does X 64 [.agg (mD m), .agg (fmD t)] [] (.ret (vS (mkB (rM litP qtP m t))) []) := by
  have hz := hs.sz
  have hMax : (rM litP qtP m t).length ≤ lenMax := by have := rM_bd hz t; unfold lenMax; omega
  unfold rM at hMax
  simp only [List.length_append] at hMax
  unfold rightM at hr
  simp only [Bool.and_eq_true, List.all_eq_true] at hr
  obtain ⟨hi, hc, hf⟩ := hr
  have szc : ∀ c ∈ m.cs, szE c.e ≤ 1073741824 := fun c h => by
    have h2 := sumN_mem szC h
    have h5 : szE c.e ≤ szC c := by unfold szC; omega
    unfold szM at hz
    omega
  have hC : ∀ x ∈ m.cs, RExprOK X x.e ∧ szE x.e ≤ 1073741824 ∧ x.nm.size ≤ 1048576 := fun c h => by
    have h1 := hc c h
    unfold rightC at h1
    rw [Bool.and_eq_true] at h1
    exact ⟨rexpr_ok hP h1.2 (hs.sm.cs c h).2 (hs.rg.cs c h) (szc c h), szc c h, (hs.sm.cs c h).1⟩
  have hfu : ∀ x ∈ m.fs, RFunOK X t x := fun f h => by
    have h1 := hf f h
    unfold rightF at h1
    simp only [Bool.and_eq_true] at h1
    have h2 := sumN_mem szF h
    have h5 : szSs f.body ≤ szF f := by unfold szF; omega
    unfold szM at hz
    refine ⟨rhead_does f (hs.sm.fs f h) (by omega) t, rblk_w f.body (hs.sm.fs f h).nb t 0 (by omega) (by omega) fun x hx => rstmt_ok hP (rightSs_mem h1.2.2.2.1 hx) (smSs_mem (hs.sm.fs f h).body hx) (rgSs_mem (hs.rg.fs f h) hx) ?_⟩
    have := szSs_mem hx
    omega
  have lI : (isD' m.is).length = m.is.length := by simp
  have lC : (csD m.cs).length = m.cs.length := by simp
  have hn := nl_len t
  have m2 := mkB_size (nl t)
  refine DoesQ.eq (DoesQ.of Tryz.func64 (by kernel_rfl) ?_)
  refine rtx_i m hs.sm.ni t (fun x h => ⟨hi x h, hs.sm.is x h⟩) (rIt (m.is.map (rI qtP)) t) (by omega) _ _ (fun s1 e1 => ?_) m.is [] .empty rfl rfl _ rfl rfl rfl rfl rfl rfl
  have z1 : s1.size = (rIt (m.is.map (rI qtP)) t).length := by rw [← L_length, e1]
  unfold lenMax at hMax
  -- behind the includes: a line's end where both stand
  have rest : ∀ (s2 : ByteArray), L s2 = rIt (m.is.map (rI qtP)) t ++ (if 0 < m.is.length ∧ 0 < m.cs.length then nl t else []) → ∀ (s3 : ByteArray), L s3 = L s2 ++ rIt (m.cs.map (rC litP)) t → (decide (0 < m.is.length + m.cs.length) = true ↔ L s3 ≠ []) := fun s2 h2 s3 h3 => by
    rw [decide_eq_true_eq, h3, h2]
    constructor
    · intro hpos e
      simp only [List.append_eq_nil_iff] at e
      cases hii : m.is with
      | cons x r =>
        have := e.1.1
        rw [hii, List.map_cons, rIt] at this
        unfold rI at this
        simp at this
      | nil =>
        cases hcc : m.cs with
        | cons x r =>
          have := e.2
          rw [hcc, List.map_cons, rIt] at this
          unfold rC rExp at this
          split at this <;> simp at this
        | nil => rw [hii, hcc] at hpos; simp at hpos
    · intro e
      rcases Nat.eq_zero_or_pos (m.is.length + m.cs.length) with h0 | h0
      · have a1 : m.is = [] := List.length_eq_zero_iff.1 (by omega)
        have a2 : m.cs = [] := List.length_eq_zero_iff.1 (by omega)
        rw [a1, a2] at e
        exact absurd rfl e
      · exact h0
  have fin : ∀ (s3 : ByteArray), L s3 = rM litP qtP m t → Out.ret (vS s3) [] = Out.ret (vS (mkB (rM litP qtP m t))) [] := fun s3 h => by rw [← h, mkB_L]
  by_cases hI0 : 0 < m.is.length
  · refine WP.iteT (decide_eq_true (by rw [lI]; omega)) ?_
    repeat refine WP.iteT (decide_eq_true (by rw [lI]; omega)) ?_
    by_cases hC0 : 0 < m.cs.length
    · refine WP.iteT (decide_eq_true (by rw [lC]; omega)) ?_
      refine WP.asrt (show s1.size + (mkB (nl t)).size ≤ 9223372036854775807 by omega) ?_
      have e2 : L (s1 ++ mkB (nl t)) = rIt (m.is.map (rI qtP)) t ++ (if 0 < m.is.length ∧ 0 < m.cs.length then nl t else []) := by rw [if_pos ⟨hI0, hC0⟩, L_append, e1, L_mkB]
      refine rtx_c m hs.sm.nc t hC (L (s1 ++ mkB (nl t)) ++ rIt (m.cs.map (rC litP)) t) (by rw [e2]; simp only [List.length_append]; unfold lenMax; omega) _ _ (fun s3 e3 => ?_) m.cs [] (s1 ++ mkB (nl t)) rfl rfl _ rfl rfl rfl rfl rfl rfl
      refine rtx_f m hs.sm.nf t hfu (rM litP qtP m t) (by have := rM_bd hz t; unfold lenMax; omega) _ _ (fun s4 e4 => ?_) m.fs [] s3 _ rfl (rest _ e2 s3 e3) (by rw [e3, e2]; unfold rM; simp only [List.append_assoc]) _ rfl rfl rfl rfl rfl rfl
      exact WP.leaf (fin s4 e4)
    · refine WP.iteF (decide_eq_false (by rw [lC]; omega)) ?_
      have e2 : L s1 = rIt (m.is.map (rI qtP)) t ++ (if 0 < m.is.length ∧ 0 < m.cs.length then nl t else []) := by rw [if_neg (fun h => hC0 h.2), e1, List.append_nil]
      refine rtx_c m hs.sm.nc t hC (L s1 ++ rIt (m.cs.map (rC litP)) t) (by rw [e2]; simp only [List.length_append]; unfold lenMax; omega) _ _ (fun s3 e3 => ?_) m.cs [] s1 rfl rfl _ rfl rfl rfl rfl rfl rfl
      refine rtx_f m hs.sm.nf t hfu (rM litP qtP m t) (by have := rM_bd hz t; unfold lenMax; omega) _ _ (fun s4 e4 => ?_) m.fs [] s3 _ rfl (rest _ e2 s3 e3) (by rw [e3, e2]; unfold rM; simp only [List.append_assoc]) _ rfl rfl rfl rfl rfl rfl
      exact WP.leaf (fin s4 e4)
  · refine WP.iteF (decide_eq_false (by rw [lI]; omega)) ?_
    repeat refine WP.iteF (decide_eq_false (by rw [lI]; omega)) ?_
    have e2 : L s1 = rIt (m.is.map (rI qtP)) t ++ (if 0 < m.is.length ∧ 0 < m.cs.length then nl t else []) := by rw [if_neg (fun h => hI0 h.1), e1, List.append_nil]
    refine rtx_c m hs.sm.nc t hC (L s1 ++ rIt (m.cs.map (rC litP)) t) (by rw [e2]; simp only [List.length_append]; unfold lenMax; omega) _ _ (fun s3 e3 => ?_) m.cs [] s1 rfl rfl _ rfl rfl rfl rfl rfl rfl
    refine rtx_f m hs.sm.nf t hfu (rM litP qtP m t) (by have := rM_bd hz t; unfold lenMax; omega) _ _ (fun s4 e4 => ?_) m.fs [] s3 _ rfl (rest _ e2 s3 e3) (by rw [e3, e2]; unfold rM; simp only [List.append_assoc]) _ rfl rfl rfl rfl rfl rfl
    exact WP.leaf (fin s4 e4)
theorem rlaid_does (hL : LibX X) (hP : LibP X) {m : TMod} (hs : SzM m) (t : Bool) : Does X 43 [.agg (mD m), .agg (fmD t)] [] (.ret (.tuple [vS (formS m t), vI (formN m t)]) []) := by
  have hlv := rlevels_does (X := X) hL hs.sm hs.sz
  unfold formS formN
  cases hr : rightM m with
  | false =>
    refine DoesQ.eq (DoesQ.of Tryz.func43 (by kernel_rfl) ?_)
    refine WP.use1 (rright_mod hL m hs.sm) ?_
    rw [hr]
    refine WP.iteT rfl ?_
    exact WP.leaf rfl
  | true =>
    rw [hr, if_pos rfl] at hlv
    rw [if_pos rfl, if_pos rfl]
    refine DoesQ.eq (DoesQ.of Tryz.func43 (by kernel_rfl) ?_)
    refine WP.use1 (rright_mod hL m hs.sm) ?_
    rw [hr]
    refine WP.iteF rfl ?_
    refine WP.use1 hlv ?_
    by_cases h1 : 64 < upM m
    · rw [if_pos h1, if_pos h1]
      refine WP.iteT (decide_eq_true h1) ?_
      exact WP.leaf rfl
    · rw [if_neg h1, if_neg h1]
      refine WP.iteF (decide_eq_false h1) ?_
      refine WP.use1 (rtext_does hP hr hs t) ?_
      have hsz : ((mkB (rM litP qtP m t)).size : Int) = (rM litP qtP m t).length := by rw [mkB_size]
      by_cases h2 : 65536 < (rM litP qtP m t).length
      · rw [if_pos h2, if_pos h2]
        refine WP.iteT (decide_eq_true (by rw [hsz]; omega)) ?_
        exact WP.leaf rfl
      · rw [if_neg h2, if_neg h2]
        refine WP.iteF (decide_eq_false (by rw [hsz]; omega)) ?_
        exact WP.leaf rfl
theorem rmodule15_does (hL : LibX X) (hP : LibP X) {m : TMod} (hs : SzM m) : Does X 17 [.agg (mD m)] [] (.ret (.tuple [vS (formS m false), vI (formN m false)]) []) := by
  refine DoesQ.eq (DoesQ.of Tryz.func17 (by kernel_rfl) ?_)
  refine WP.use1 (rlaid_does hL hP hs false) ?_
  exact WP.leaf rfl
theorem rtight15_does (hL : LibX X) (hP : LibP X) {m : TMod} (hs : SzM m) : Does X 19 [.agg (mD m)] [] (.ret (.tuple [vS (formS m true), vI (formN m true)]) []) := by
  refine DoesQ.eq (DoesQ.of Tryz.func19 (by kernel_rfl) ?_)
  refine WP.use1 (rlaid_does hL hP hs true) ?_
  exact WP.leaf rfl
set_option maxHeartbeats 2000000 in
theorem modules_law0 (hL : LibX X) (hP : LibP X) (hW : WrOK X) (m : TMod) (hs : SzM m) : Does X 4 [.agg (mD m)] [] (.ret (vB true) []) := by
  have hlv := rlevels_does (X := X) hL hs.sm hs.sz
  refine DoesQ.eq (DoesQ.of Tryz.func4 (by kernel_rfl) ?_)
  refine WP.use1 (pmodule_does hL hW hs) ?_
  refine WP.use1 (rmodule15_does hL hP hs) ?_
  refine WP.use1 (ptight_does hL hW hs) ?_
  refine WP.use1 (rtight15_does hL hP hs) ?_
  refine WP.asrt (by kernel_rfl) ?_
  repeat refine WP.iteT (by simp) ?_
  refine WP.use1 (plevels_does hL hW hs) ?_
  repeat refine WP.iteT (by simp) ?_
  refine WP.use1 hlv ?_
  repeat refine WP.iteT (by simp [levN]) ?_
  refine WP.use1 (alive_does hL hW) ?_
  repeat refine WP.iteT (by simp [levN]) ?_
  try refine WP.asrt (by kernel_rfl) ?_
  exact WP.leaf rfl
end
theorem modules_law15 (_ : LibX X0) (m : TMod) (h : SzM m) : Does (OrX XW) 4 [.agg (mD m)] [] (.ret (vB true) []) := modules_law0 oxw_lib oxw_p oxw_wr m h
end Go.Proofs.YtaddhpeainliiaaGreatDoor.Id
/-! ## OpenI -/
namespace Go.Proofs.YtaddhpeainliiaaGreatDoor.Opens
theorem bulk_str {H : Type} {s : ByteArray} {l : List (DataW H)} (h : (DataW.lit (.string s.data.toList)) ∈ l) (hk : Rows.uptoSmall H l = true) : s.size ≤ 1048576 := by
  have h1 := bulks.part_le h
  have h2 := bulks.bound hk
  rw [bulks.string_eq] at h1
  have e : s.data.toList.length = s.size := by rw [Array.length_toList]; rfl
  omega
theorem bulk_arg {H : Type} {d : DataW H} {l : List (DataW H)} (h : d ∈ l) (hk : Rows.uptoSmall H l = true) : Rows.uptoBulk d ≤ 1048576 := Nat.le_trans (bulks.part_le h) (bulks.bound hk)
end Go.Proofs.YtaddhpeainliiaaGreatDoor.Opens
/-! ## LawPrintModules -/
namespace Go.Proofs.YtaddhpeainliiaaGreatDoor.printModules
open Go.ChangeShapes Go.WideShapes Go.ChangeAt Go.RowKit
open Go.ChangeMaps (open_string shut_string)
set_option linter.unusedVariables false
set_option linter.unusedSimpArgs false
theorem own : ownKnob Tryz.prog.godebug = none := by kernel_rfl
theorem laidOut : laidOutB Tryz.prog = true := by kernel_rfl
set_option maxRecDepth 100000 in
theorem contract (H : Type) (enc : TypeId × Value → H) (W : World) (args : Array Value) (ds gs : List (DataW H)) (before : List MemPlace)
    (base : Nat) (hval0 : ∀ (j : Nat) t v, Tryz.f4.params[j]? = some t → args[j]? = some v → Value.okWide Tryz.prog W .any base t v)
    (hW : DataW.Whole enc Tryz.prog Tryz.f4.params.toList Rows.printModulesSpec.vars false W args.toList ds gs before) (hk : Rows.uptoSmall H (ds ++ gs) = true) (hL0 : laidMetH Tryz.prog Rows.printModulesUptoRow.laid W) :
    Calls Tryz.prog 4 args W fun e W' => ∃ v, e = .returned v ∧ Rows.printModulesSpec.post enc Tryz.prog Tryz.f4 false true false false W args v W' := by
  have hval := hval0
  have hW' := hW
  obtain ⟨p, q, hA0, hV, rfl, hfz, hnd⟩ := hW
  have hA : DataW.TrodAll enc Tryz.prog W 0 (fun _ => true) true Tryz.f4.params.toList args.toList ds p := hA0
  rw [Tryz.params4] at hA hval
  obtain ⟨v0, vs0, d0, ds0, p0, q0, hargs, rfl, rfl, h0, r0⟩ := trodAll_cons hA
  obtain ⟨rfl, rfl, rfl⟩ := trodAll_nil r0
  obtain rfl : args = #[v0] := by cases args; simp_all
  obtain ⟨rfl, rfl⟩ := trodVars_none hV
  obtain ⟨cs0, rfl⟩ := Id.okWide_agg Tryz.underlying26 (hval 0 26 v0 rfl rfl)
  have k0 := h0
  have lt0 : ∀ x ∈ p0, x.block < W.heap.size := by obtain ⟨m, hm⟩ := k0; exact DataW.trod_lt m _ _ _ hm
  obtain ⟨m0, hm0⟩ := h0
  obtain ⟨a0, ra0, sm0⟩ := Id.trod_mod3 _ _ _ hm0 (Opens.bulk_arg (d := d0) (by simp) hk)
  have hL : laidMet Tryz.prog [("math/bits.deBruijn32tab", Rows.laid_math_bits_deBruijn32tab), ("math/bits.deBruijn64tab", Rows.laid_math_bits_deBruijn64tab), ("internal/strconv.uint64pow10", Rows.laid_internal_strconv_uint64pow10), ("strconv.ErrRange", Rows.laid_strconv_ErrRange), ("strconv.ErrSyntax", Rows.laid_strconv_ErrSyntax)] W := by rw [MakeChecks.laidMetH_plain _ _ _ (by kernel_rfl)] at hL0; exact hL0
  rw [show Rows.laid_internal_strconv_uint64pow10 = (Lib.tabData .u64 Lib.pow10Tab : DataW Unit) by kernel_rfl] at hL
  have hI : P.Inv W := P.inv_of_laid hL
  clear hA0
  refine (Id.row_doesP (args := [.agg (Id.mD a0)]) (vs := #[.agg cs0]) hI ⟨_, _, rfl, ⟨_, rfl, ra0⟩, rfl⟩ (Id.modules_law15 Id.x0_lib a0 sm0)).mono fun e W' ⟨he, bel0⟩ => ?_
  have bel : Below W.heap.size W W' := bel0
  subst he
  exact ⟨_, rfl, _, _, _, [], _, [], hW', trodAll_mk1 (shut_bool Tryz.underlying4 _), (trodAll_cons_mk (Below.trod laidOut (by kernel_rfl) (of_decide_eq_true (by kernel_rfl)) k0 bel lt0) trodAll_mk0), rfl, bel.frame _, fun h => by cases h⟩
/-- So many blocks has the settled world. -/
noncomputable def low : Nat := (World.holding Tryz.prog default ⟨#[], #[], []⟩).heap.size
/-- A world for the witness: the settled one, the listed variables holding what their initialisers lay. -/
noncomputable def laidWorld (os : Os) : World :=
  { World.holding Tryz.prog os ⟨#[.cells #[.string { data := #[118, 97, 108, 117, 101, 32, 111, 117, 116, 32, 111, 102, 32, 114, 97, 110, 103, 101] }] 256, .cells #[.string { data := #[105, 110, 118, 97, 108, 105, 100, 32, 115, 121, 110, 116, 97, 120] }] 256], #[], []⟩ with heap := ((((((World.holding Tryz.prog os ⟨#[.cells #[.string { data := #[118, 97, 108, 117, 101, 32, 111, 117, 116, 32, 111, 102, 32, 114, 97, 110, 103, 101] }] 256, .cells #[.string { data := #[105, 110, 118, 97, 108, 105, 100, 32, 115, 121, 110, 116, 97, 120] }] 256], #[], []⟩).heap.modify 2 fun
      | .cells _ t frozen => .cells #[.int .u8 0, .int .u8 1, .int .u8 28, .int .u8 2, .int .u8 29, .int .u8 14, .int .u8 24, .int .u8 3, .int .u8 30, .int .u8 22, .int .u8 20, .int .u8 15, .int .u8 25, .int .u8 17, .int .u8 4, .int .u8 8, .int .u8 31, .int .u8 27, .int .u8 13, .int .u8 23, .int .u8 21, .int .u8 19, .int .u8 16, .int .u8 7, .int .u8 26, .int .u8 12, .int .u8 18, .int .u8 6, .int .u8 11, .int .u8 5, .int .u8 10, .int .u8 9] t frozen
      | o => o).modify 3 fun
      | .cells _ t frozen => .cells #[.int .u8 0, .int .u8 1, .int .u8 56, .int .u8 2, .int .u8 57, .int .u8 49, .int .u8 28, .int .u8 3, .int .u8 61, .int .u8 58, .int .u8 42, .int .u8 50, .int .u8 38, .int .u8 29, .int .u8 17, .int .u8 4, .int .u8 62, .int .u8 47, .int .u8 59, .int .u8 36, .int .u8 45, .int .u8 43, .int .u8 51, .int .u8 22, .int .u8 53, .int .u8 39, .int .u8 33, .int .u8 30, .int .u8 24, .int .u8 18, .int .u8 12, .int .u8 5, .int .u8 63, .int .u8 55, .int .u8 48, .int .u8 27, .int .u8 60, .int .u8 41, .int .u8 37, .int .u8 16, .int .u8 46, .int .u8 35, .int .u8 44, .int .u8 21, .int .u8 52, .int .u8 32, .int .u8 23, .int .u8 11, .int .u8 54, .int .u8 26, .int .u8 40, .int .u8 15, .int .u8 34, .int .u8 20, .int .u8 31, .int .u8 10, .int .u8 25, .int .u8 14, .int .u8 19, .int .u8 9, .int .u8 13, .int .u8 8, .int .u8 7, .int .u8 6] t frozen
      | o => o).modify 0 fun
      | .cells _ t frozen => .cells #[.int .u64 1, .int .u64 10, .int .u64 100, .int .u64 1000, .int .u64 10000, .int .u64 100000, .int .u64 1000000, .int .u64 10000000, .int .u64 100000000, .int .u64 1000000000, .int .u64 10000000000, .int .u64 100000000000, .int .u64 1000000000000, .int .u64 10000000000000, .int .u64 100000000000000, .int .u64 1000000000000000, .int .u64 10000000000000000, .int .u64 100000000000000000, .int .u64 1000000000000000000, .int .u64 10000000000000000000] t frozen
      | o => o).modify 5 fun
      | .cells _ t frozen => .cells #[.iface 254 (.pointer (some ⟨low + 0, 0, none⟩))] t frozen
      | o => o).modify 4 fun
      | .cells _ t frozen => .cells #[.iface 254 (.pointer (some ⟨low + 1, 0, none⟩))] t frozen
      | o => o) }
theorem laid_met (os : Os) : laidMet Tryz.prog Rows.printModulesUptoRow.laid ((laidWorld os).forCall (fun _ _ => 0) ⟨#[], #[.agg #[.slice none 0 0, .slice none 0 0, .slice none 0 0]], []⟩).memory :=
  laidMet_of_run' 8 (by kernel_rfl) (by kernel_rfl)
theorem reads (os : Os) {H : Type} (enc : TypeId × Value → H) : ∃ places, DataW.whole enc Tryz.prog ((laidWorld os).forCall (fun _ _ => 0) ⟨#[], #[.agg #[.slice none 0 0, .slice none 0 0, .slice none 0 0]], []⟩).memory Tryz.f4.params.toList Rows.printModulesSpec.vars false (#[.agg #[.slice none 0 0, .slice none 0 0, .slice none 0 0]] : Array Value).toList 8 = some ([.agg [.nil, .nil, .nil]], [], places) :=
  ⟨[], by kernel_rfl⟩
set_option maxRecDepth 100000 in
theorem lifted (os : Os) (started : os.Started) (H : Type) (enc : TypeId × Value → H) (F : Stop.Interp) :
    ReturnsInHanded {} Tryz.checked os 4 .any ((Rows.OpenSpec.upto Rows.printModulesSpec).preRow enc Tryz.prog Tryz.f4 Rows.printModulesUptoRow.domain false Rows.printModulesUptoRow.laid) (((Rows.OpenSpec.upto Rows.printModulesSpec).at F).post enc Tryz.prog Tryz.f4 false true false false) := by
  obtain ⟨places, hx⟩ := reads os enc
  refine returnsInHanded_of_row (C := Tryz.checked) (s := Rows.OpenSpec.upto Rows.printModulesSpec) own started (by kernel_rfl) Tryz.func4
    (witness_row_at (enc := enc) (C := Tryz.checked) false (laidWorld os) #[.agg #[.slice none 0 0, .slice none 0 0, .slice none 0 0]] rfl (by kernel_rfl) (by kernel_rfl) (by kernel_rfl)
      (OpenSpec.preRow_of_cond 8 hx (by kernel_rfl) (fun k hk => by cases hk; kernel_rfl) (by kernel_rfl) (laid_met os))) ?_
  intro W base args ds gs before hval hW _ hcond _ hL0 _ _
  exact contract H enc W args ds gs before base hval hW (hcond _ rfl) hL0
theorem saidUpto : Rows.PrintModulesUptoSaid :=
  OpenClaim.holds_of_cond 4 Tryz.f4 rfl rfl rfl rfl rfl rfl rfl ⟨rfl, rfl, rfl, rfl, rfl⟩ rfl rfl rfl rfl rfl (by kernel_rfl) Tryz.func4 (by kernel_rfl)
    (of_decide_eq_true (by kernel_rfl)) (by unfold Func.isWrapper; first | (rw [if_pos (by decide +kernel)]; kernel_rfl) | (rw [if_neg (by decide +kernel)]; exact ⟨rfl, rfl⟩))
    (fun os started H enc _ F => by rw [OpenClaim.pre_eq_preRow]; exact lifted os started H enc F)
theorem plain (f : FuncId) (fn : Func) (hf : Tryz.pinned.checked.prog.funcNamed "treadle/treadlelaw15.PrintModules" = some f) (hfn : Tryz.pinned.checked.prog.funcs[f]? = some fn) :
    true = Tryz.pinned.checked.prog.looks [] ∧ ∀ (j : Nat) t, fn.params[j]? = some t → Tryz.pinned.checked.prog.wantsStandIn t = false := by
  obtain rfl : f = 4 := Option.some.inj ((show Tryz.prog.funcNamed "treadle/treadlelaw15.PrintModules" = some 4 by kernel_rfl).symm.trans hf) |>.symm
  obtain rfl : fn = Tryz.f4 := (Option.some.inj (Tryz.func4.symm.trans hfn)).symm
  refine ⟨by kernel_rfl, fun j t ht => ?_⟩
  rw [Tryz.params4] at ht
  have hm := Array.mem_of_getElem? ht
  simp only [List.mem_toArray, List.mem_cons, List.not_mem_nil, or_false] at hm
  rcases hm with rfl
  · exact (show Tryz.prog.wantsStandIn 26 = false by kernel_rfl)
theorem cardUpto : Rows.PrintModulesUptoCardSaid :=
  Claim7.holds_tied_plain_at .later [] _ _ _ _ saidUpto (fun _ h => by cases h) (by kernel_rfl) (fun _ h => by cases h) printModulesUpto_row_tie rfl ⟨rfl, rfl⟩ (by kernel_rfl) rfl plain (by kernel_rfl)
#print axioms cardUpto
end Go.Proofs.YtaddhpeainliiaaGreatDoor.printModules
namespace Go.Proofs.YtaddhpeainliiaaGreatDoor
/-- The statement, under a short name, for the claim. -/
theorem printModules_holds : Rows.PrintModulesUptoCardSaid := printModules.cardUpto
end Go.Proofs.YtaddhpeainliiaaGreatDoor
