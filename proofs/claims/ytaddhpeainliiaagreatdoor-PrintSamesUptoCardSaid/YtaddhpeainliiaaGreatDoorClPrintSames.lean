/- For arguments of bulk at most 1,048,576 the law PrintSames answers true, and its arguments read behind the call as they read before.
   Conditions: the arguments (and the package variables that the reading takes) are together of bulk at most 1,048,576 ('Upto'); the listed package-level variables hold what the program's text lays (the card ties them). -/
import Derived.Test.YtaddhpeainliiaaGreatDoorBunPrintSamese
import Derived.Test.YtaddhpeainliiaaGreatDoorCards
import Derived.Test.YtaddhpeainliiaaGreatDoorTie
import Derived.WalkKit
import Derived.ProofKit
import Derived.OpenShut
import Derived.ShutString
import Derived.ChangeOld
import Derived.Below
import Derived.SizedLaws
import Derived.Deep.DeepHandedRow
import Derived.Lib.LaidTab
/-! ## PrS -/
namespace Go.Proofs.YtaddhpeainliiaaGreatDoor.Id
open Go
set_option linter.unusedVariables false
set_option linter.unusedSimpArgs false
set_option maxRecDepth 100000
section
variable {X : Given}
set_option maxHeartbeats 2000000 in
theorem eqfI_loop (R : TIncl → TIncl → Bool) (fn : FuncId) (l m : List TIncl) (hk : l.length ≤ 1000000000) (hD : ∀ x ∈ l, ∀ y ∈ m, Does X fn [.agg (iD x), .agg (iD y)] [] (.ret (vB (R x y)) [])) (K : Ex → St → Id.T Out) (Q : Out → Prop)
    (hE : all2 R l m = true → WP X (K (.exit 0) ⟨[], []⟩) Q) (hR : all2 R l m = false → WP X (K .ret ⟨[(6, .lit false)], []⟩) Q) :
    ∀ (r p s q : List TIncl), l = p ++ r → m = q ++ s → p.length = q.length → r.length = s.length → all2 R l m = all2 R r s → ∀ σ : St, getT σ.t 1 = .d (.sl 3 (m.map fun x => iD x)) → getT σ.t 2 = .fn fn [] [] → getT σ.t 15 = .d (.sl 3 (l.map fun x => iD x)) → getT σ.t 16 = vI (l.map fun x => iD x).length → getT σ.t 17 = vI p.length → WP X (.loop (lp Tryz.f31 0) σ K) Q
  | r, p, s, q, h, h', hpq, hrs, ha, σ, g1, g2, g15, g16, g17 => by
    refine WP.round ⟨[(1, .d (.sl 3 (m.map fun x => iD x))), (2, .fn fn [] []), (15, .d (.sl 3 (l.map fun x => iD x))), (16, vI (l.map fun x => iD x).length), (17, vI p.length)], []⟩ ⟨⟨.inl g1.symm, .inl g2.symm, .inl g15.symm, .inl g16.symm, .inl g17.symm, trivial⟩, trivial⟩ ?_
    have hlen : l.length = p.length + r.length := by rw [h]; simp
    have hsl : (l.map fun x => iD x).length = l.length := by simp
    cases r with
    | nil =>
      cases s with
      | cons _ _ => simp at hrs
      | nil =>
        refine WP.iteF (by rw [hsl]; simp at hlen; simp; omega) ?_
        exact WP.leaf ⟨⟨[], []⟩, ⟨trivial, trivial⟩, hE (by rw [ha]; rfl)⟩
    | cons x r =>
      cases s with
      | nil => simp at hrs
      | cons y s =>
        simp only [List.length_cons] at hlen hrs
        rw [all2] at ha
        refine WP.iteT (by rw [hsl]; simp; omega) ?_
        refine WP.idx _ (by omega) (map_get (fun x => iD x) h) ?_
        refine WP.idx _ (by omega) (by rw [hpq]; exact map_get (fun x => iD x) h') ?_
        refine WP.use1 (hD x (by rw [h]; simp) y (by rw [h']; simp)) ?_
        cases hxy : R x y with
        | false =>
          rw [hxy] at ha
          refine WP.iteT rfl ?_
          exact WP.leaf ⟨⟨[(6, .lit false)], []⟩, ⟨⟨.inl rfl, trivial⟩, trivial⟩, hR ha⟩
        | true =>
          rw [hxy] at ha
          refine WP.iteF rfl ?_
          refine WP.leaf ?_
          refine eqfI_loop R fn l m hk hD K Q hE hR r (p ++ [x]) s (q ++ [y]) (by rw [h]; simp) (by rw [h']; simp) (by simp [hpq]) (by omega) ha _ rfl rfl rfl rfl ?_
          show vI (IntKind.i64.wrap ((p.length : Int) + 1)) = _
          rw [wrapI (by omega) (by omega)]; simp
theorem eqfI (R : TIncl → TIncl → Bool) (fn : FuncId) (l m : List TIncl) (hk : l.length ≤ 1000000000) (hD : ∀ x ∈ l, ∀ y ∈ m, Does X fn [.agg (iD x), .agg (iD y)] [] (.ret (vB (R x y)) [])) : Does X 31 [.d (.sl 3 (l.map fun x => iD x)), .d (.sl 3 (m.map fun x => iD x)), .fn fn [] []] [] (.ret (vB (all2 R l m)) []) := by
  refine DoesQ.eq (DoesQ.of Tryz.func31 (by kernel_rfl) ?_)
  have hsl : (l.map fun x => iD x).length = l.length := by simp
  have hsm : (m.map fun x => iD x).length = m.length := by simp
  by_cases hlm : l.length = m.length
  · refine WP.iteF (by rw [hsl, hsm]; simp; omega) ?_
    refine eqfI_loop R fn l m hk hD _ _ ?_ ?_ l [] m [] rfl rfl rfl hlm rfl _ rfl rfl rfl rfl rfl
    · intro h; exact WP.leaf (by rw [h])
    · intro h; exact WP.leaf (by rw [h])
  · refine WP.iteT (by rw [hsl, hsm]; simp; omega) ?_
    exact WP.leaf (by rw [all2_len hlm])
set_option maxHeartbeats 2000000 in
theorem eqfC_loop (R : TCons → TCons → Bool) (fn : FuncId) (l m : List TCons) (hk : l.length ≤ 1000000000) (hD : ∀ x ∈ l, ∀ y ∈ m, Does X fn [.agg (cD x), .agg (cD y)] [] (.ret (vB (R x y)) [])) (K : Ex → St → Id.T Out) (Q : Out → Prop)
    (hE : all2 R l m = true → WP X (K (.exit 0) ⟨[], []⟩) Q) (hR : all2 R l m = false → WP X (K .ret ⟨[(6, .lit false)], []⟩) Q) :
    ∀ (r p s q : List TCons), l = p ++ r → m = q ++ s → p.length = q.length → r.length = s.length → all2 R l m = all2 R r s → ∀ σ : St, getT σ.t 1 = .d (.sl 13 (m.map fun x => cD x)) → getT σ.t 2 = .fn fn [] [] → getT σ.t 15 = .d (.sl 13 (l.map fun x => cD x)) → getT σ.t 16 = vI (l.map fun x => cD x).length → getT σ.t 17 = vI p.length → WP X (.loop (lp Tryz.f33 0) σ K) Q
  | r, p, s, q, h, h', hpq, hrs, ha, σ, g1, g2, g15, g16, g17 => by
    refine WP.round ⟨[(1, .d (.sl 13 (m.map fun x => cD x))), (2, .fn fn [] []), (15, .d (.sl 13 (l.map fun x => cD x))), (16, vI (l.map fun x => cD x).length), (17, vI p.length)], []⟩ ⟨⟨.inl g1.symm, .inl g2.symm, .inl g15.symm, .inl g16.symm, .inl g17.symm, trivial⟩, trivial⟩ ?_
    have hlen : l.length = p.length + r.length := by rw [h]; simp
    have hsl : (l.map fun x => cD x).length = l.length := by simp
    cases r with
    | nil =>
      cases s with
      | cons _ _ => simp at hrs
      | nil =>
        refine WP.iteF (by rw [hsl]; simp at hlen; simp; omega) ?_
        exact WP.leaf ⟨⟨[], []⟩, ⟨trivial, trivial⟩, hE (by rw [ha]; rfl)⟩
    | cons x r =>
      cases s with
      | nil => simp at hrs
      | cons y s =>
        simp only [List.length_cons] at hlen hrs
        rw [all2] at ha
        refine WP.iteT (by rw [hsl]; simp; omega) ?_
        refine WP.idx _ (by omega) (map_get (fun x => cD x) h) ?_
        refine WP.idx _ (by omega) (by rw [hpq]; exact map_get (fun x => cD x) h') ?_
        refine WP.use1 (hD x (by rw [h]; simp) y (by rw [h']; simp)) ?_
        cases hxy : R x y with
        | false =>
          rw [hxy] at ha
          refine WP.iteT rfl ?_
          exact WP.leaf ⟨⟨[(6, .lit false)], []⟩, ⟨⟨.inl rfl, trivial⟩, trivial⟩, hR ha⟩
        | true =>
          rw [hxy] at ha
          refine WP.iteF rfl ?_
          refine WP.leaf ?_
          refine eqfC_loop R fn l m hk hD K Q hE hR r (p ++ [x]) s (q ++ [y]) (by rw [h]; simp) (by rw [h']; simp) (by simp [hpq]) (by omega) ha _ rfl rfl rfl rfl ?_
          show vI (IntKind.i64.wrap ((p.length : Int) + 1)) = _
          rw [wrapI (by omega) (by omega)]; simp
theorem eqfC (R : TCons → TCons → Bool) (fn : FuncId) (l m : List TCons) (hk : l.length ≤ 1000000000) (hD : ∀ x ∈ l, ∀ y ∈ m, Does X fn [.agg (cD x), .agg (cD y)] [] (.ret (vB (R x y)) [])) : Does X 33 [.d (.sl 13 (l.map fun x => cD x)), .d (.sl 13 (m.map fun x => cD x)), .fn fn [] []] [] (.ret (vB (all2 R l m)) []) := by
  refine DoesQ.eq (DoesQ.of Tryz.func33 (by kernel_rfl) ?_)
  have hsl : (l.map fun x => cD x).length = l.length := by simp
  have hsm : (m.map fun x => cD x).length = m.length := by simp
  by_cases hlm : l.length = m.length
  · refine WP.iteF (by rw [hsl, hsm]; simp; omega) ?_
    refine eqfC_loop R fn l m hk hD _ _ ?_ ?_ l [] m [] rfl rfl rfl hlm rfl _ rfl rfl rfl rfl rfl
    · intro h; exact WP.leaf (by rw [h])
    · intro h; exact WP.leaf (by rw [h])
  · refine WP.iteT (by rw [hsl, hsm]; simp; omega) ?_
    exact WP.leaf (by rw [all2_len hlm])
set_option maxHeartbeats 2000000 in
theorem eqfF_loop (R : TFunc → TFunc → Bool) (fn : FuncId) (l m : List TFunc) (hk : l.length ≤ 1000000000) (hD : ∀ x ∈ l, ∀ y ∈ m, Does X fn [.agg (fD x), .agg (fD y)] [] (.ret (vB (R x y)) [])) (K : Ex → St → Id.T Out) (Q : Out → Prop)
    (hE : all2 R l m = true → WP X (K (.exit 0) ⟨[], []⟩) Q) (hR : all2 R l m = false → WP X (K .ret ⟨[(6, .lit false)], []⟩) Q) :
    ∀ (r p s q : List TFunc), l = p ++ r → m = q ++ s → p.length = q.length → r.length = s.length → all2 R l m = all2 R r s → ∀ σ : St, getT σ.t 1 = .d (.sl 6 (m.map fun x => fD x)) → getT σ.t 2 = .fn fn [] [] → getT σ.t 15 = .d (.sl 6 (l.map fun x => fD x)) → getT σ.t 16 = vI (l.map fun x => fD x).length → getT σ.t 17 = vI p.length → WP X (.loop (lp Tryz.f35 0) σ K) Q
  | r, p, s, q, h, h', hpq, hrs, ha, σ, g1, g2, g15, g16, g17 => by
    refine WP.round ⟨[(1, .d (.sl 6 (m.map fun x => fD x))), (2, .fn fn [] []), (15, .d (.sl 6 (l.map fun x => fD x))), (16, vI (l.map fun x => fD x).length), (17, vI p.length)], []⟩ ⟨⟨.inl g1.symm, .inl g2.symm, .inl g15.symm, .inl g16.symm, .inl g17.symm, trivial⟩, trivial⟩ ?_
    have hlen : l.length = p.length + r.length := by rw [h]; simp
    have hsl : (l.map fun x => fD x).length = l.length := by simp
    cases r with
    | nil =>
      cases s with
      | cons _ _ => simp at hrs
      | nil =>
        refine WP.iteF (by rw [hsl]; simp at hlen; simp; omega) ?_
        exact WP.leaf ⟨⟨[], []⟩, ⟨trivial, trivial⟩, hE (by rw [ha]; rfl)⟩
    | cons x r =>
      cases s with
      | nil => simp at hrs
      | cons y s =>
        simp only [List.length_cons] at hlen hrs
        rw [all2] at ha
        refine WP.iteT (by rw [hsl]; simp; omega) ?_
        refine WP.idx _ (by omega) (map_get (fun x => fD x) h) ?_
        refine WP.idx _ (by omega) (by rw [hpq]; exact map_get (fun x => fD x) h') ?_
        refine WP.use1 (hD x (by rw [h]; simp) y (by rw [h']; simp)) ?_
        cases hxy : R x y with
        | false =>
          rw [hxy] at ha
          refine WP.iteT rfl ?_
          exact WP.leaf ⟨⟨[(6, .lit false)], []⟩, ⟨⟨.inl rfl, trivial⟩, trivial⟩, hR ha⟩
        | true =>
          rw [hxy] at ha
          refine WP.iteF rfl ?_
          refine WP.leaf ?_
          refine eqfF_loop R fn l m hk hD K Q hE hR r (p ++ [x]) s (q ++ [y]) (by rw [h]; simp) (by rw [h']; simp) (by simp [hpq]) (by omega) ha _ rfl rfl rfl rfl ?_
          show vI (IntKind.i64.wrap ((p.length : Int) + 1)) = _
          rw [wrapI (by omega) (by omega)]; simp
theorem eqfF (R : TFunc → TFunc → Bool) (fn : FuncId) (l m : List TFunc) (hk : l.length ≤ 1000000000) (hD : ∀ x ∈ l, ∀ y ∈ m, Does X fn [.agg (fD x), .agg (fD y)] [] (.ret (vB (R x y)) [])) : Does X 35 [.d (.sl 6 (l.map fun x => fD x)), .d (.sl 6 (m.map fun x => fD x)), .fn fn [] []] [] (.ret (vB (all2 R l m)) []) := by
  refine DoesQ.eq (DoesQ.of Tryz.func35 (by kernel_rfl) ?_)
  have hsl : (l.map fun x => fD x).length = l.length := by simp
  have hsm : (m.map fun x => fD x).length = m.length := by simp
  by_cases hlm : l.length = m.length
  · refine WP.iteF (by rw [hsl, hsm]; simp; omega) ?_
    refine eqfF_loop R fn l m hk hD _ _ ?_ ?_ l [] m [] rfl rfl rfl hlm rfl _ rfl rfl rfl rfl rfl
    · intro h; exact WP.leaf (by rw [h])
    · intro h; exact WP.leaf (by rw [h])
  · refine WP.iteT (by rw [hsl, hsm]; simp; omega) ?_
    exact WP.leaf (by rw [all2_len hlm])
set_option maxHeartbeats 2000000 in
theorem eqfE_loop (R : TExpr → TExpr → Bool) (fn : FuncId) (l m : List TExpr) (hk : l.length ≤ 1000000000) (hD : ∀ x ∈ l, ∀ y ∈ m, Does X fn [.agg (eD x), .agg (eD y)] [] (.ret (vB (R x y)) [])) (K : Ex → St → Id.T Out) (Q : Out → Prop)
    (hE : all2 R l m = true → WP X (K (.exit 0) ⟨[], []⟩) Q) (hR : all2 R l m = false → WP X (K .ret ⟨[(6, .lit false)], []⟩) Q) :
    ∀ (r p s q : List TExpr), l = p ++ r → m = q ++ s → p.length = q.length → r.length = s.length → all2 R l m = all2 R r s → ∀ σ : St, getT σ.t 1 = .d (.sl 10 (m.map fun x => eD x)) → getT σ.t 2 = .fn fn [] [] → getT σ.t 15 = .d (.sl 10 (l.map fun x => eD x)) → getT σ.t 16 = vI (l.map fun x => eD x).length → getT σ.t 17 = vI p.length → WP X (.loop (lp Tryz.f41 0) σ K) Q
  | r, p, s, q, h, h', hpq, hrs, ha, σ, g1, g2, g15, g16, g17 => by
    refine WP.round ⟨[(1, .d (.sl 10 (m.map fun x => eD x))), (2, .fn fn [] []), (15, .d (.sl 10 (l.map fun x => eD x))), (16, vI (l.map fun x => eD x).length), (17, vI p.length)], []⟩ ⟨⟨.inl g1.symm, .inl g2.symm, .inl g15.symm, .inl g16.symm, .inl g17.symm, trivial⟩, trivial⟩ ?_
    have hlen : l.length = p.length + r.length := by rw [h]; simp
    have hsl : (l.map fun x => eD x).length = l.length := by simp
    cases r with
    | nil =>
      cases s with
      | cons _ _ => simp at hrs
      | nil =>
        refine WP.iteF (by rw [hsl]; simp at hlen; simp; omega) ?_
        exact WP.leaf ⟨⟨[], []⟩, ⟨trivial, trivial⟩, hE (by rw [ha]; rfl)⟩
    | cons x r =>
      cases s with
      | nil => simp at hrs
      | cons y s =>
        simp only [List.length_cons] at hlen hrs
        rw [all2] at ha
        refine WP.iteT (by rw [hsl]; simp; omega) ?_
        refine WP.idx _ (by omega) (map_get (fun x => eD x) h) ?_
        refine WP.idx _ (by omega) (by rw [hpq]; exact map_get (fun x => eD x) h') ?_
        refine WP.use1 (hD x (by rw [h]; simp) y (by rw [h']; simp)) ?_
        cases hxy : R x y with
        | false =>
          rw [hxy] at ha
          refine WP.iteT rfl ?_
          exact WP.leaf ⟨⟨[(6, .lit false)], []⟩, ⟨⟨.inl rfl, trivial⟩, trivial⟩, hR ha⟩
        | true =>
          rw [hxy] at ha
          refine WP.iteF rfl ?_
          refine WP.leaf ?_
          refine eqfE_loop R fn l m hk hD K Q hE hR r (p ++ [x]) s (q ++ [y]) (by rw [h]; simp) (by rw [h']; simp) (by simp [hpq]) (by omega) ha _ rfl rfl rfl rfl ?_
          show vI (IntKind.i64.wrap ((p.length : Int) + 1)) = _
          rw [wrapI (by omega) (by omega)]; simp
theorem eqfE (R : TExpr → TExpr → Bool) (fn : FuncId) (l m : List TExpr) (hk : l.length ≤ 1000000000) (hD : ∀ x ∈ l, ∀ y ∈ m, Does X fn [.agg (eD x), .agg (eD y)] [] (.ret (vB (R x y)) [])) : Does X 41 [.d (.sl 10 (l.map fun x => eD x)), .d (.sl 10 (m.map fun x => eD x)), .fn fn [] []] [] (.ret (vB (all2 R l m)) []) := by
  refine DoesQ.eq (DoesQ.of Tryz.func41 (by kernel_rfl) ?_)
  have hsl : (l.map fun x => eD x).length = l.length := by simp
  have hsm : (m.map fun x => eD x).length = m.length := by simp
  by_cases hlm : l.length = m.length
  · refine WP.iteF (by rw [hsl, hsm]; simp; omega) ?_
    refine eqfE_loop R fn l m hk hD _ _ ?_ ?_ l [] m [] rfl rfl rfl hlm rfl _ rfl rfl rfl rfl rfl
    · intro h; exact WP.leaf (by rw [h])
    · intro h; exact WP.leaf (by rw [h])
  · refine WP.iteT (by rw [hsl, hsm]; simp; omega) ?_
    exact WP.leaf (by rw [all2_len hlm])
set_option maxHeartbeats 2000000 in
theorem eqfS_loop (R : TStmt → TStmt → Bool) (fn : FuncId) (l m : List TStmt) (hk : l.length ≤ 1000000000) (hD : ∀ x ∈ l, ∀ y ∈ m, Does X fn [.agg (sD x), .agg (sD y)] [] (.ret (vB (R x y)) [])) (K : Ex → St → Id.T Out) (Q : Out → Prop)
    (hE : all2 R l m = true → WP X (K (.exit 0) ⟨[], []⟩) Q) (hR : all2 R l m = false → WP X (K .ret ⟨[(6, .lit false)], []⟩) Q) :
    ∀ (r p s q : List TStmt), l = p ++ r → m = q ++ s → p.length = q.length → r.length = s.length → all2 R l m = all2 R r s → ∀ σ : St, getT σ.t 1 = .d (.sl 16 (m.map fun x => sD x)) → getT σ.t 2 = .fn fn [] [] → getT σ.t 15 = .d (.sl 16 (l.map fun x => sD x)) → getT σ.t 16 = vI (l.map fun x => sD x).length → getT σ.t 17 = vI p.length → WP X (.loop (lp Tryz.f38 0) σ K) Q
  | r, p, s, q, h, h', hpq, hrs, ha, σ, g1, g2, g15, g16, g17 => by
    refine WP.round ⟨[(1, .d (.sl 16 (m.map fun x => sD x))), (2, .fn fn [] []), (15, .d (.sl 16 (l.map fun x => sD x))), (16, vI (l.map fun x => sD x).length), (17, vI p.length)], []⟩ ⟨⟨.inl g1.symm, .inl g2.symm, .inl g15.symm, .inl g16.symm, .inl g17.symm, trivial⟩, trivial⟩ ?_
    have hlen : l.length = p.length + r.length := by rw [h]; simp
    have hsl : (l.map fun x => sD x).length = l.length := by simp
    cases r with
    | nil =>
      cases s with
      | cons _ _ => simp at hrs
      | nil =>
        refine WP.iteF (by rw [hsl]; simp at hlen; simp; omega) ?_
        exact WP.leaf ⟨⟨[], []⟩, ⟨trivial, trivial⟩, hE (by rw [ha]; rfl)⟩
    | cons x r =>
      cases s with
      | nil => simp at hrs
      | cons y s =>
        simp only [List.length_cons] at hlen hrs
        rw [all2] at ha
        refine WP.iteT (by rw [hsl]; simp; omega) ?_
        refine WP.idx _ (by omega) (map_get (fun x => sD x) h) ?_
        refine WP.idx _ (by omega) (by rw [hpq]; exact map_get (fun x => sD x) h') ?_
        refine WP.use1 (hD x (by rw [h]; simp) y (by rw [h']; simp)) ?_
        cases hxy : R x y with
        | false =>
          rw [hxy] at ha
          refine WP.iteT rfl ?_
          exact WP.leaf ⟨⟨[(6, .lit false)], []⟩, ⟨⟨.inl rfl, trivial⟩, trivial⟩, hR ha⟩
        | true =>
          rw [hxy] at ha
          refine WP.iteF rfl ?_
          refine WP.leaf ?_
          refine eqfS_loop R fn l m hk hD K Q hE hR r (p ++ [x]) s (q ++ [y]) (by rw [h]; simp) (by rw [h']; simp) (by simp [hpq]) (by omega) ha _ rfl rfl rfl rfl ?_
          show vI (IntKind.i64.wrap ((p.length : Int) + 1)) = _
          rw [wrapI (by omega) (by omega)]; simp
theorem eqfS (R : TStmt → TStmt → Bool) (fn : FuncId) (l m : List TStmt) (hk : l.length ≤ 1000000000) (hD : ∀ x ∈ l, ∀ y ∈ m, Does X fn [.agg (sD x), .agg (sD y)] [] (.ret (vB (R x y)) [])) : Does X 38 [.d (.sl 16 (l.map fun x => sD x)), .d (.sl 16 (m.map fun x => sD x)), .fn fn [] []] [] (.ret (vB (all2 R l m)) []) := by
  refine DoesQ.eq (DoesQ.of Tryz.func38 (by kernel_rfl) ?_)
  have hsl : (l.map fun x => sD x).length = l.length := by simp
  have hsm : (m.map fun x => sD x).length = m.length := by simp
  by_cases hlm : l.length = m.length
  · refine WP.iteF (by rw [hsl, hsm]; simp; omega) ?_
    refine eqfS_loop R fn l m hk hD _ _ ?_ ?_ l [] m [] rfl rfl rfl hlm rfl _ rfl rfl rfl rfl rfl
    · intro h; exact WP.leaf (by rw [h])
    · intro h; exact WP.leaf (by rw [h])
  · refine WP.iteT (by rw [hsl, hsm]; simp; omega) ?_
    exact WP.leaf (by rw [all2_len hlm])
set_option maxHeartbeats 2000000 in
theorem eqp_loop (l m : List TParam) (hk : l.length ≤ 1000000000) (K : Ex → St → Id.T Out) (Q : Out → Prop)
    (hE : all2 seP l m = true → WP X (K (.exit 0) ⟨[], []⟩) Q) (hR : all2 seP l m = false → WP X (K .ret ⟨[(4, .lit false)], []⟩) Q) :
    ∀ (r p s q : List TParam), l = p ++ r → m = q ++ s → p.length = q.length → r.length = s.length → all2 seP l m = all2 seP r s → ∀ σ : St, getT σ.t 0 = .d (.sl 2 (psD l)) → getT σ.t 1 = .d (.sl 2 (psD m)) → getT σ.t 12 = vI (psD l).length → getT σ.t 13 = vI p.length → WP X (.loop (lp Tryz.f37 0) σ K) Q
  | r, p, s, q, h, h', hpq, hrs, ha, σ, g0, g1, g12, g13 => by
    refine WP.round ⟨[(0, .d (.sl 2 (psD l))), (1, .d (.sl 2 (psD m))), (12, vI (psD l).length), (13, vI p.length)], []⟩ ⟨⟨.inl g0.symm, .inl g1.symm, .inl g12.symm, .inl g13.symm, trivial⟩, trivial⟩ ?_
    have hlen : l.length = p.length + r.length := by rw [h]; simp
    have hsl : (psD l).length = l.length := by simp
    cases r with
    | nil =>
      cases s with
      | cons _ _ => simp at hrs
      | nil =>
        refine WP.iteF (by rw [hsl]; simp at hlen; simp; omega) ?_
        exact WP.leaf ⟨⟨[], []⟩, ⟨trivial, trivial⟩, hE (by rw [ha]; rfl)⟩
    | cons x r =>
      cases s with
      | nil => simp at hrs
      | cons y s =>
        simp only [List.length_cons] at hlen hrs
        rw [all2] at ha
        have hnext : seP x y = true → ∀ σ : St, getT σ.t 0 = .d (.sl 2 (psD l)) → getT σ.t 1 = .d (.sl 2 (psD m)) → getT σ.t 12 = vI (psD l).length → getT σ.t 13 = vI (IntKind.i64.wrap ((p.length : Int) + 1)) → WP X (.loop (lp Tryz.f37 0) σ K) Q := fun hxy σ g0 g1 g12 g13 => by
          refine eqp_loop l m hk K Q hE hR r (p ++ [x]) s (q ++ [y]) (by rw [h]; simp) (by rw [h']; simp) (by simp [hpq]) (by omega) (by rw [ha, hxy]; rfl) σ g0 g1 g12 ?_
          rw [g13, wrapI (by omega) (by omega)]; simp
        have hno : seP x y = false → all2 seP l m = false := fun hxy => by rw [ha, hxy]; rfl
        refine WP.iteT (by rw [hsl]; simp; omega) ?_
        refine WP.asrt (by kernel_rfl) ?_
        refine WP.idx _ (by omega) (map_get (fun x => pD x) h) ?_
        refine WP.idx _ (by omega) (by rw [hpq]; exact map_get (fun x => pD x) h') ?_
        repeat' first | refine WP.asrt (by kernel_rfl) ?_ | refine WP.ite (fun _ => ?_) (fun _ => ?_) | exact WP.leaf ⟨⟨[(4, .lit false)], []⟩, ⟨⟨.inl rfl, trivial⟩, trivial⟩, hR (hno (by
          cases hs : seP x y with
          | false => rfl
          | true => (unfold seP at hs; simp_all)))⟩ | exact WP.leaf (hnext (by unfold seP; simp_all) _ rfl rfl rfl rfl)
theorem eqp (l m : List TParam) (hk : l.length ≤ 1000000000) : Does X 37 [.d (.sl 2 (psD l)), .d (.sl 2 (psD m))] [] (.ret (vB (all2 seP l m)) []) := by
  refine DoesQ.eq (DoesQ.of Tryz.func37 (by kernel_rfl) ?_)
  have hsl : (psD l).length = l.length := by simp
  have hsm : (psD m).length = m.length := by simp
  by_cases hlm : l.length = m.length
  · refine WP.iteF (by rw [hsl, hsm]; simp; omega) ?_
    refine eqp_loop l m hk _ _ ?_ ?_ l [] m [] rfl rfl rfl hlm rfl _ rfl rfl rfl rfl
    · intro h; exact WP.leaf (by rw [h])
    · intro h; exact WP.leaf (by rw [h])
  · refine WP.iteT (by rw [hsl, hsm]; simp; omega) ?_
    exact WP.leaf (by rw [all2_len hlm])
end
end Go.Proofs.YtaddhpeainliiaaGreatDoor.Id
/-! ## PrSb -/
namespace Go.Proofs.YtaddhpeainliiaaGreatDoor.Id
open Go
set_option linter.unusedVariables false
set_option linter.unusedSimpArgs false
set_option maxRecDepth 100000
section
variable {X : Given}
theorem dsAll_mapE : ∀ l : List TExpr, dsAll l = l.map fun x => eD x
  | [] => rfl
  | x :: r => by rw [dsAll_cons, dsAll_mapE r]; rfl
set_option maxHeartbeats 4000000 in
theorem psame_e : ∀ (n : Nat) (a b : TExpr), SizeOf.sizeOf a < n → smE a → Does X 13 [.agg (eD a), .agg (eD b)] [] (.ret (vB (seE a b)) [])
  | 0, a, b, h, _ => absurd h (Nat.not_lt_zero _)
  | n + 1, .mk k a of nm v op kids, .mk k' a' of' nm' v' op' kids', hn, hs => by
    rw [smE] at hs
    simp only [TExpr.mk.sizeOf_spec] at hn
    have hk := eqfE (X := X) seE 13 kids kids' hs.2.2.1 (fun x hx y _ => psame_e n x y (by have := List.sizeOf_lt_of_mem hx; omega) (smEs_mem hs.2.2.2 hx))
    rw [← dsAll_mapE, ← dsAll_mapE] at hk
    obtain ⟨v1, v2, v3, v4⟩ := v
    obtain ⟨w1, w2, w3, w4⟩ := v'
    refine DoesQ.eq (DoesQ.of Tryz.func13 (by kernel_rfl) ?_)
    clear hn hs
    dsimp only [eD, TExpr.k, TExpr.a, TExpr.of, TExpr.nm, TExpr.v, TExpr.op, TExpr.kids]
    rw [seE_eq]
    dsimp only [TExpr.k, TExpr.a, TExpr.of, TExpr.nm, TExpr.v, TExpr.op, TExpr.kids]
    repeat' first | refine WP.iteT (by assumption) ?_ | refine WP.iteF (by assumption) ?_ | refine WP.ite (fun _ => ?_) (fun _ => ?_) | refine WP.leaf ?_ | refine WP.use1 hk ?_ | refine WP.asrt (by kernel_rfl) ?_
    all_goals
      clear hk
      refine congrArg (fun b => Out.ret (vB b) []) ?_
      unfold seV
      simp_all
theorem psameE (a b : TExpr) (h : smE a) : Does X 13 [.agg (eD a), .agg (eD b)] [] (.ret (vB (seE a b)) []) := psame_e _ a b (Nat.lt_succ_self _) h
set_option maxHeartbeats 4000000 in
theorem psame_s : ∀ (n : Nat) (a b : TStmt), SizeOf.sizeOf a < n → smS a → Does X 39 [.agg (sD a), .agg (sD b)] [] (.ret (vB (seS a b)) [])
  | 0, a, b, h, _ => absurd h (Nat.not_lt_zero _)
  | n + 1, .mk k a nm e body els he, .mk k' a' nm' e' body' els' he', hn, hs => by
    rw [smS] at hs
    simp only [TStmt.mk.sizeOf_spec] at hn
    have hb := eqfS (X := X) seS 39 body body' hs.2.2.1 (fun x hx y _ => psame_s n x y (by have := List.sizeOf_lt_of_mem hx; omega) (smSs_mem hs.2.2.2.2.1 hx))
    have hl := eqfS (X := X) seS 39 els els' hs.2.2.2.1 (fun x hx y _ => psame_s n x y (by have := List.sizeOf_lt_of_mem hx; omega) (smSs_mem hs.2.2.2.2.2 hx))
    rw [← ssAll_map, ← ssAll_map] at hb hl
    have hE := psameE (X := X) e e' hs.2.1
    refine DoesQ.eq (DoesQ.of Tryz.func39 (by kernel_rfl) ?_)
    clear hn hs
    dsimp only [sD, TStmt.k, TStmt.a, TStmt.nm, TStmt.e, TStmt.body, TStmt.els, TStmt.he]
    rw [seS_eq]
    dsimp only [TStmt.k, TStmt.a, TStmt.nm, TStmt.e, TStmt.body, TStmt.els, TStmt.he]
    repeat' first | refine WP.iteT (by assumption) ?_ | refine WP.iteF (by assumption) ?_ | refine WP.ite (fun _ => ?_) (fun _ => ?_) | refine WP.leaf ?_ | refine WP.use1 hE ?_ | refine WP.use1 hb ?_ | refine WP.use1 hl ?_ | refine WP.asrt (by kernel_rfl) ?_
    all_goals
      clear hb hl hE
      refine congrArg (fun b => Out.ret (vB b) []) ?_
      simp_all
theorem psameS (a b : TStmt) (h : smS a) : Does X 39 [.agg (sD a), .agg (sD b)] [] (.ret (vB (seS a b)) []) := psame_s _ a b (Nat.lt_succ_self _) h
theorem psame_i (a b : TIncl) : Does X 32 [.agg (iD a), .agg (iD b)] [] (.ret (vB (seI a b)) []) := by
  refine DoesQ.eq (DoesQ.of Tryz.func32 (by kernel_rfl) ?_)
  repeat' first | refine WP.iteT (by assumption) ?_ | refine WP.iteF (by assumption) ?_ | refine WP.ite (fun _ => ?_) (fun _ => ?_) | refine WP.leaf ?_ | refine WP.asrt (by kernel_rfl) ?_
  all_goals
    refine congrArg (fun b => Out.ret (vB b) []) ?_
    unfold seI
    simp_all
theorem psame_c (a b : TCons) (h : smE a.e) : Does X 34 [.agg (cD a), .agg (cD b)] [] (.ret (vB (seC a b)) []) := by
  have hE := psameE (X := X) a.e b.e h
  refine DoesQ.eq (DoesQ.of Tryz.func34 (by kernel_rfl) ?_)
  repeat' first | refine WP.iteT (by assumption) ?_ | refine WP.iteF (by assumption) ?_ | refine WP.ite (fun _ => ?_) (fun _ => ?_) | refine WP.leaf ?_ | refine WP.use1 hE ?_ | refine WP.asrt (by kernel_rfl) ?_
  all_goals
    clear hE
    refine congrArg (fun b => Out.ret (vB b) []) ?_
    unfold seC
    simp_all
theorem psame_f (a b : TFunc) (h : SmF a) : Does X 36 [.agg (fD a), .agg (fD b)] [] (.ret (vB (seF a b)) []) := by
  have hb := eqfS (X := X) seS 39 a.body b.body h.nb (fun x hx y _ => psameS x y (smSs_mem h.body hx))
  rw [← ssAll_map, ← ssAll_map] at hb
  have hp := eqp (X := X) a.ps b.ps h.np
  refine DoesQ.eq (DoesQ.of Tryz.func36 (by kernel_rfl) ?_)
  clear h
  repeat' first | refine WP.iteT (by assumption) ?_ | refine WP.iteF (by assumption) ?_ | refine WP.ite (fun _ => ?_) (fun _ => ?_) | refine WP.leaf ?_ | refine WP.use1 hb ?_ | refine WP.use1 hp ?_ | refine WP.asrt (by kernel_rfl) ?_
  all_goals
    clear hb hp
    refine congrArg (fun b => Out.ret (vB b) []) ?_
    unfold seF
    simp_all
theorem psameM (a b : TMod) (h : SmM a) : Does X 11 [.agg (mD a), .agg (mD b)] [] (.ret (vB (seM a b)) []) := by
  have hi := eqfI (X := X) seI 32 a.is b.is h.ni (fun x _ y _ => psame_i x y)
  have hc := eqfC (X := X) seC 34 a.cs b.cs h.nc (fun x hx y _ => psame_c x y (h.cs x hx).2)
  have hf := eqfF (X := X) seF 36 a.fs b.fs h.nf (fun x hx y _ => psame_f x y (h.fs x hx))
  refine DoesQ.eq (DoesQ.of Tryz.func11 (by kernel_rfl) ?_)
  clear h
  repeat' first | refine WP.iteT (by assumption) ?_ | refine WP.iteF (by assumption) ?_ | refine WP.ite (fun _ => ?_) (fun _ => ?_) | refine WP.leaf ?_ | refine WP.use1 hi ?_ | refine WP.use1 hc ?_ | refine WP.use1 hf ?_ | refine WP.asrt (by kernel_rfl) ?_
  all_goals
    clear hi hc hf
    refine congrArg (fun b => Out.ret (vB b) []) ?_
    unfold seM
    simp_all
end
end Go.Proofs.YtaddhpeainliiaaGreatDoor.Id
/-! ## PrSc -/
namespace Go.Proofs.YtaddhpeainliiaaGreatDoor.Id
open Go
set_option linter.unusedVariables false
set_option linter.unusedSimpArgs false
set_option maxRecDepth 100000
section
variable {X : Given}
set_option maxHeartbeats 4000000 in
theorem rqe_loop (a b : TExpr) (hk : a.kids.length ≤ 1000000000) (hD : ∀ x ∈ a.kids, ∀ y, Does X 14 [.agg (eD x), .agg (eD y)] [] (.ret (vB (seE x y)) [])) (K : Ex → St → Id.T Out) (Q : Out → Prop)
    (hE : all2 seE a.kids b.kids = true → WP X (K (.exit 0) ⟨[], []⟩) Q) (hR : all2 seE a.kids b.kids = false → WP X (K .ret ⟨[(4, .lit false)], []⟩) Q) :
    ∀ (r p s q : List TExpr), a.kids = p ++ r → b.kids = q ++ s → p.length = q.length → r.length = s.length → all2 seE a.kids b.kids = all2 seE r s → ∀ σ : St, getT σ.t 2 = .box 2 0 → getT σ.t 3 = .box 3 0 → getT σ.t 5 = vI p.length → getB σ.b 2 = some (eV a) → getB σ.b 3 = some (eV b) → WP X (.loop (lp Tryz.f14 0) σ K) Q
  | r, p, s, q, h, h', hpq, hrs, ha, σ, g2, g3, g5, gb2, gb3 => by
    refine WP.round ⟨[(2, .box 2 0), (3, .box 3 0), (5, vI p.length)], [(2, eV a), (3, eV b)]⟩ ⟨⟨.inl g2.symm, .inl g3.symm, .inl g5.symm, trivial⟩, ⟨WkB.box gb2, WkB.box gb3, trivial⟩⟩ ?_
    have hlen : a.kids.length = p.length + r.length := by rw [h]; simp
    cases r with
    | nil =>
      cases s with
      | cons _ _ => simp at hrs
      | nil =>
        refine WP.iteF (by rw [dsAll_len]; simp at hlen; simp; omega) ?_
        exact WP.leaf ⟨⟨[], []⟩, ⟨trivial, trivial⟩, hE (by rw [ha]; rfl)⟩
    | cons x r =>
      cases s with
      | nil => simp at hrs
      | cons y s =>
        simp only [List.length_cons] at hlen hrs
        rw [all2] at ha
        refine WP.iteT (by rw [dsAll_len]; simp; omega) ?_
        refine WP.asrt (by kernel_rfl) ?_
        refine WP.idx _ (by omega) (dsAll_get h) ?_
        refine WP.idx _ (by omega) (by rw [hpq]; exact dsAll_get h') ?_
        refine WP.use1 (hD x (by rw [h]; simp) y) ?_
        repeat refine WP.asrt (by kernel_rfl) ?_
        cases hxy : seE x y with
        | false =>
          rw [hxy] at ha
          refine WP.iteT rfl ?_
          exact WP.leaf ⟨⟨[(4, .lit false)], []⟩, ⟨⟨.inl rfl, trivial⟩, trivial⟩, hR ha⟩
        | true =>
          rw [hxy] at ha
          refine WP.iteF rfl ?_
          refine WP.leaf ?_
          refine rqe_loop a b hk hD K Q hE hR r (p ++ [x]) s (q ++ [y]) (by rw [h]; simp) (by rw [h']; simp) (by simp [hpq]) (by omega) ha _ rfl rfl ?_ rfl rfl
          show vI (IntKind.i64.wrap ((p.length : Int) + 1)) = _
          rw [wrapI (by omega) (by omega)]; simp
set_option maxHeartbeats 4000000 in
theorem rsame_e : ∀ (n : Nat) (a b : TExpr), SizeOf.sizeOf a < n → smE a → Does X 14 [.agg (eD a), .agg (eD b)] [] (.ret (vB (seE a b)) [])
  | 0, a, b, h, _ => absurd h (Nat.not_lt_zero _)
  | n + 1, .mk k a of nm v op kids, .mk k' a' of' nm' v' op' kids', hn, hs => by
    rw [smE] at hs
    simp only [TExpr.mk.sizeOf_spec] at hn
    have hD : ∀ x ∈ kids, ∀ y, Does X 14 [.agg (eD x), .agg (eD y)] [] (.ret (vB (seE x y)) []) := fun x hx y => rsame_e n x y (by have := List.sizeOf_lt_of_mem hx; omega) (smEs_mem hs.2.2.2 hx)
    have hk := hs.2.2.1
    have hl := dsAll_len kids
    have hl' := dsAll_len kids'
    refine DoesQ.eq (DoesQ.of Tryz.func14 (by kernel_rfl) ?_)
    clear hn hs
    have e0 := seE_eq (.mk k a of nm v op kids) (.mk k' a' of' nm' v' op' kids')
    by_cases hlen : kids.length = kids'.length
    · have hmain : ∀ (z : Bool), seE (.mk k a of nm v op kids) (.mk k' a' of' nm' v' op' kids') = (z && all2 seE kids kids') → z = true → ∀ σ : St, getT σ.t 2 = .box 2 0 → getT σ.t 3 = .box 3 0 → getT σ.t 5 = vI 0 → getB σ.b 2 = some (eV (.mk k a of nm v op kids)) → getB σ.b 3 = some (eV (.mk k' a' of' nm' v' op' kids')) → ∀ (K : Ex → St → Id.T Out), (WP X (K (.exit 0) ⟨[], []⟩) (· = .ret (vB true) [])) → (WP X (K .ret ⟨[(4, .lit false)], []⟩) (· = .ret (vB false) [])) → WP X (.loop (lp Tryz.f14 0) σ K) (· = .ret (vB (seE (.mk k a of nm v op kids) (.mk k' a' of' nm' v' op' kids'))) []) := fun z hz hzt σ g2 g3 g5 gb2 gb3 K k1 k2 => by
        rw [hz, hzt, Bool.true_and]
        refine rqe_loop (.mk k a of nm v op kids) (.mk k' a' of' nm' v' op' kids') hk hD K _ (fun h => ?_) (fun h => ?_) kids [] kids' [] rfl rfl rfl hlen rfl σ g2 g3 g5 gb2 gb3
        · rw [show all2 seE kids kids' = true from h]; exact k1
        · rw [show all2 seE kids kids' = false from h]; exact k2
      dsimp only [eD, TExpr.k, TExpr.a, TExpr.of, TExpr.nm, TExpr.v, TExpr.op, TExpr.kids]
      obtain ⟨v1, v2, v3, v4⟩ := v
      obtain ⟨w1, w2, w3, w4⟩ := v'
      dsimp only [TExpr.k, TExpr.a, TExpr.of, TExpr.nm, TExpr.v, TExpr.op, TExpr.kids] at e0
      unfold seV at e0
      have hl2 : ((dsAll kids).length : Int) = (dsAll kids').length := by rw [hl, hl']; omega
      repeat' first | refine WP.iteT (by assumption) ?_ | refine WP.iteF (by assumption) ?_ | refine WP.iteF (by rw [hl2]; simp; done) ?_ | refine WP.asrt (by kernel_rfl) ?_ | refine WP.ite (fun _ => ?_) (fun _ => ?_) | refine WP.leaf ?_
      all_goals first
        | (refine congrArg (fun b => Out.ret (vB b) []) ?_; clear hmain hD; symm; refine Bool.eq_false_iff.2 (fun hz => ?_); rw [hz] at e0; simp_all; done)
        | (have hz := hmain true (by rw [e0]; clear hmain hD e0; simp_all) rfl; refine hz _ ?_ ?_ ?_ ?_ ?_ _ ?_ ?_ <;> first | rfl | exact WP.leaf rfl)
    · have h0 : all2 seE kids kids' = false := all2_len hlen
      dsimp only [TExpr.k, TExpr.a, TExpr.of, TExpr.nm, TExpr.v, TExpr.op, TExpr.kids] at e0
      rw [h0] at e0
      simp only [Bool.and_false] at e0
      rw [e0]
      dsimp only [eD, TExpr.k, TExpr.a, TExpr.of, TExpr.nm, TExpr.v, TExpr.op, TExpr.kids]
      have hl2 : ((dsAll kids).length : Int) ≠ (dsAll kids').length := by rw [hl, hl']; omega
      repeat' first | refine WP.iteT (by assumption) ?_ | refine WP.iteF (by assumption) ?_ | refine WP.asrt (by kernel_rfl) ?_ | refine WP.iteT (by simp; omega) ?_ | refine WP.ite (fun _ => ?_) (fun _ => ?_) | exact WP.leaf rfl
theorem rsameE (a b : TExpr) (h : smE a) : Does X 14 [.agg (eD a), .agg (eD b)] [] (.ret (vB (seE a b)) []) := rsame_e _ a b (Nat.lt_succ_self _) h
set_option maxHeartbeats 4000000 in
theorem rqs_loop (l m : List TStmt) (hk : l.length ≤ 1000000000) (hsm : smSs l) (hD : ∀ x ∈ l, ∀ y : TStmt, Does X 40 [.d (.sl 16 (ssAll x.body)), .d (.sl 16 (ssAll y.body))] [] (.ret (vB (all2 seS x.body y.body)) []) ∧ Does X 40 [.d (.sl 16 (ssAll x.els)), .d (.sl 16 (ssAll y.els))] [] (.ret (vB (all2 seS x.els y.els)) [])) (K : Ex → St → Id.T Out) (Q : Out → Prop)
    (hE : all2 seS l m = true → WP X (K (.exit 0) ⟨[], []⟩) Q) (hR : all2 seS l m = false → WP X (K .ret ⟨[(4, .lit false)], []⟩) Q) :
    ∀ (r p s q : List TStmt), l = p ++ r → m = q ++ s → p.length = q.length → r.length = s.length → all2 seS l m = all2 seS r s → ∀ σ : St, getT σ.t 0 = .d (.sl 16 (ssAll l)) → getT σ.t 1 = .d (.sl 16 (ssAll m)) → getT σ.t 5 = vI p.length → WP X (.loop (lp Tryz.f40 0) σ K) Q
  | r, p, s, q, h, h', hpq, hrs, ha, σ, g0, g1, g5 => by
    refine WP.round ⟨[(0, .d (.sl 16 (ssAll l))), (1, .d (.sl 16 (ssAll m))), (5, vI p.length)], []⟩ ⟨⟨.inl g0.symm, .inl g1.symm, .inl g5.symm, trivial⟩, trivial⟩ ?_
    have hlen : l.length = p.length + r.length := by rw [h]; simp
    cases r with
    | nil =>
      cases s with
      | cons _ _ => simp at hrs
      | nil =>
        refine WP.iteF (by rw [ssAll_len]; simp at hlen; simp; omega) ?_
        exact WP.leaf ⟨⟨[], []⟩, ⟨trivial, trivial⟩, hE (by rw [ha]; rfl)⟩
    | cons x r =>
      cases s with
      | nil => simp at hrs
      | cons y s =>
        simp only [List.length_cons] at hlen hrs
        rw [all2] at ha
        have hx := smSs_mem hsm (show x ∈ l by rw [h]; simp)
        obtain ⟨hb, hl⟩ := hD x (by rw [h]; simp) y
        have hnext : seS x y = true → ∀ σ : St, getT σ.t 0 = .d (.sl 16 (ssAll l)) → getT σ.t 1 = .d (.sl 16 (ssAll m)) → getT σ.t 5 = vI (IntKind.i64.wrap ((p.length : Int) + 1)) → WP X (.loop (lp Tryz.f40 0) σ K) Q := fun hxy σ g0 g1 g5 => by
          refine rqs_loop l m hk hsm hD K Q hE hR r (p ++ [x]) s (q ++ [y]) (by rw [h]; simp) (by rw [h']; simp) (by simp [hpq]) (by omega) (by rw [ha, hxy]; rfl) σ g0 g1 ?_
          rw [g5, wrapI (by omega) (by omega)]; simp
        have hno : seS x y = false → all2 seS l m = false := fun hxy => by rw [ha, hxy]; rfl
        have e0 := seS_eq x y
        refine WP.iteT (by rw [ssAll_len]; simp; omega) ?_
        refine WP.asrt (by kernel_rfl) ?_
        refine WP.idx _ (by omega) (ssAll_get h) ?_
        refine WP.idx _ (by omega) (by rw [hpq]; exact ssAll_get h') ?_
        obtain ⟨k, a, nm, e, body, els, he⟩ := x
        obtain ⟨k', a', nm', e', body', els', he'⟩ := y
        rw [smS] at hx
        have hee := rsameE (X := X) e e' hx.2.1
        clear hx hD hE
        dsimp only [TStmt.k, TStmt.a, TStmt.nm, TStmt.e, TStmt.body, TStmt.els, TStmt.he] at e0 hb hl
        repeat' first | refine WP.iteT (by assumption) ?_ | refine WP.iteF (by assumption) ?_ | refine WP.asrt (by kernel_rfl) ?_ | refine WP.use1 hee ?_ | refine WP.use1 hb ?_ | refine WP.use1 hl ?_ | refine WP.ite (fun _ => ?_) (fun _ => ?_) | refine WP.leaf ?_
        all_goals first
          | (have hz : seS (.mk k a nm e body els he) (.mk k' a' nm' e' body' els' he') = false := by
              refine Bool.eq_false_iff.2 (fun hz => ?_)
              rw [hz] at e0
              clear hnext hno hR hee hb hl ha g0 g1 g5
              dsimp only [TStmt.k, TStmt.a, TStmt.nm, TStmt.e, TStmt.body, TStmt.els, TStmt.he] at *
              simp_all
              done
             exact ⟨⟨[(4, .lit false)], []⟩, ⟨⟨.inl rfl, trivial⟩, trivial⟩, hR (hno hz)⟩)
          | (have hz : seS (.mk k a nm e body els he) (.mk k' a' nm' e' body' els' he') = true := by
              rw [e0]
              clear hnext hno hR hee hb hl ha g0 g1 g5 e0
              dsimp only [TStmt.k, TStmt.a, TStmt.nm, TStmt.e, TStmt.body, TStmt.els, TStmt.he] at *
              simp_all
             exact hnext hz _ rfl rfl rfl)
theorem rsame_b : ∀ (n : Nat) (l m : List TStmt), SizeOf.sizeOf l < n → l.length ≤ 1000000000 → smSs l → Does X 40 [.d (.sl 16 (ssAll l)), .d (.sl 16 (ssAll m))] [] (.ret (vB (all2 seS l m)) [])
  | 0, l, m, h, _, _ => absurd h (Nat.not_lt_zero _)
  | n + 1, l, m, hn, hk, hs => by
    have hD : ∀ x ∈ l, ∀ y : TStmt, Does X 40 [.d (.sl 16 (ssAll x.body)), .d (.sl 16 (ssAll y.body))] [] (.ret (vB (all2 seS x.body y.body)) []) ∧ Does X 40 [.d (.sl 16 (ssAll x.els)), .d (.sl 16 (ssAll y.els))] [] (.ret (vB (all2 seS x.els y.els)) []) := fun x hx y => by
      have h1 := List.sizeOf_lt_of_mem hx
      have h2 := smSs_mem hs hx
      obtain ⟨k, a, nm, e, body, els, he⟩ := x
      rw [smS] at h2
      simp only [TStmt.mk.sizeOf_spec] at h1
      exact ⟨rsame_b n body y.body (by omega) h2.2.2.1 h2.2.2.2.2.1, rsame_b n els y.els (by omega) h2.2.2.2.1 h2.2.2.2.2.2⟩
    refine DoesQ.eq (DoesQ.of Tryz.func40 (by kernel_rfl) ?_)
    by_cases hlm : l.length = m.length
    · refine WP.iteF (by rw [ssAll_len, ssAll_len]; simp; omega) ?_
      refine rqs_loop l m hk hs hD _ _ ?_ ?_ l [] m [] rfl rfl rfl hlm rfl _ rfl rfl rfl
      · intro h; exact WP.leaf (by rw [h])
      · intro h; exact WP.leaf (by rw [h])
    · refine WP.iteT (by rw [ssAll_len, ssAll_len]; simp; omega) ?_
      exact WP.leaf (by rw [all2_len hlm])
theorem rsameB (l m : List TStmt) (hk : l.length ≤ 1000000000) (hs : smSs l) : Does X 40 [.d (.sl 16 (ssAll l)), .d (.sl 16 (ssAll m))] [] (.ret (vB (all2 seS l m)) []) := rsame_b _ l m (Nat.lt_succ_self _) hk hs
end
end Go.Proofs.YtaddhpeainliiaaGreatDoor.Id
/-! ## PrSd -/
namespace Go.Proofs.YtaddhpeainliiaaGreatDoor.Id
open Go
set_option linter.unusedVariables false
set_option linter.unusedSimpArgs false
set_option maxRecDepth 100000
section
variable {X : Given}
abbrev rqEx (a b : TMod) : St := ⟨[(2, .box 2 0), (3, .box 3 0)], [(2, mV a), (3, mV b)]⟩
abbrev rqNo : St := ⟨[(4, .lit false)], []⟩
set_option maxHeartbeats 4000000 in
theorem rqI_loop (a b : TMod) (hk : a.is.length ≤ 1000000000) (K : Ex → St → Id.T Out) (Q : Out → Prop)
    (hE : all2 seI a.is b.is = true → WP X (K (.exit 0) (rqEx a b)) Q) (hR : all2 seI a.is b.is = false → WP X (K .ret rqNo) Q) :
    ∀ (r p s q : List TIncl), a.is = p ++ r → b.is = q ++ s → p.length = q.length → r.length = s.length → all2 seI a.is b.is = all2 seI r s → ∀ σ : St, getT σ.t 2 = .box 2 0 → getT σ.t 3 = .box 3 0 → getT σ.t 5 = vI p.length → getB σ.b 2 = some (mV a) → getB σ.b 3 = some (mV b) → WP X (.loop (lp Tryz.f12 0) σ K) Q
  | r, p, s, q, h, h', hpq, hrs, ha, σ, g2, g3, g5, gb2, gb3 => by
    refine WP.round ⟨[(2, .box 2 0), (3, .box 3 0), (5, vI p.length)], [(2, mV a), (3, mV b)]⟩ ⟨⟨.inl g2.symm, .inl g3.symm, .inl g5.symm, trivial⟩, ⟨WkB.box gb2, WkB.box gb3, trivial⟩⟩ ?_
    have hlen : a.is.length = p.length + r.length := by rw [h]; simp
    have hsl : (isD' a.is).length = a.is.length := by simp
    cases r with
    | nil =>
      cases s with
      | cons _ _ => simp at hrs
      | nil =>
        refine WP.iteF (by rw [hsl]; simp at hlen; simp; omega) ?_
        exact WP.leaf ⟨rqEx a b, ⟨⟨.inl rfl, .inl rfl, trivial⟩, ⟨WkB.box rfl, WkB.box rfl, trivial⟩⟩, hE (by rw [ha]; rfl)⟩
    | cons x r =>
      cases s with
      | nil => simp at hrs
      | cons y s =>
        simp only [List.length_cons] at hlen hrs
        rw [all2] at ha
        have hnext : seI x y = true → ∀ σ : St, getT σ.t 2 = .box 2 0 → getT σ.t 3 = .box 3 0 → getT σ.t 5 = vI (IntKind.i64.wrap ((p.length : Int) + 1)) → getB σ.b 2 = some (mV a) → getB σ.b 3 = some (mV b) → WP X (.loop (lp Tryz.f12 0) σ K) Q := fun hxy σ g2 g3 g5 gb2 gb3 => by
          refine rqI_loop a b hk K Q hE hR r (p ++ [x]) s (q ++ [y]) (by rw [h]; simp) (by rw [h']; simp) (by simp [hpq]) (by omega) (by rw [ha, hxy]; rfl) σ g2 g3 ?_ gb2 gb3
          rw [g5, wrapI (by omega) (by omega)]; simp
        have hno : seI x y = false → WP X (K .ret rqNo) Q := fun hxy => hR (by rw [ha, hxy]; rfl)
        have i1 : (isD' a.is)[((p.length : Int)).toNat]? = some (iD x) := map_get (fun x => iD x) h
        have i2 : (isD' b.is)[((p.length : Int)).toNat]? = some (iD y) := by rw [hpq]; exact map_get (fun x => iD x) h'
        refine WP.iteT (by rw [hsl]; simp; omega) ?_
        refine WP.asrt (by kernel_rfl) ?_
        refine WP.idx _ (by omega) i1 ?_
        refine WP.idx _ (by omega) i2 ?_
        obtain ⟨xp, xn, xa⟩ := x
        obtain ⟨yp, yn, ya⟩ := y
        by_cases e1 : xp = yp
        · by_cases e2 : xn = yn
          · have hz : seI ⟨xp, xn, xa⟩ ⟨yp, yn, ya⟩ = true := by unfold seI; simp [e1, e2]
            repeat' first | refine WP.asrt (by kernel_rfl) ?_ | refine WP.iteF (by first | (simp [e1]; done) | omega) ?_ | refine WP.idx _ (by omega) i1 ?_ | refine WP.idx _ (by omega) i2 ?_ | refine WP.iteF (by first | (simp [e2]; done) | omega) ?_ | refine WP.leaf ?_
            exact hnext hz _ rfl rfl rfl rfl rfl
          · have hz : seI ⟨xp, xn, xa⟩ ⟨yp, yn, ya⟩ = false := by unfold seI; simp [e2]
            repeat' first | refine WP.asrt (by kernel_rfl) ?_ | refine WP.iteF (by first | (simp [e1]; done) | omega) ?_ | refine WP.idx _ (by omega) i1 ?_ | refine WP.idx _ (by omega) i2 ?_ | refine WP.iteT (by first | (simp [e2]; done) | omega) ?_ | refine WP.leaf ?_
            exact ⟨rqNo, ⟨⟨.inl rfl, trivial⟩, trivial⟩, hno hz⟩
        · have hz : seI ⟨xp, xn, xa⟩ ⟨yp, yn, ya⟩ = false := by unfold seI; simp [e1]
          repeat' first | refine WP.asrt (by kernel_rfl) ?_ | refine WP.iteT (by first | (simp [e1]; done) | omega) ?_ | refine WP.leaf ?_
          exact ⟨rqNo, ⟨⟨.inl rfl, trivial⟩, trivial⟩, hno hz⟩
set_option maxHeartbeats 4000000 in
theorem rqC_loop (a b : TMod) (hk : a.cs.length ≤ 1000000000) (hsm : ∀ c ∈ a.cs, smE c.e) (K : Ex → St → Id.T Out) (Q : Out → Prop)
    (hE : all2 seC a.cs b.cs = true → WP X (K (.exit 2) (rqEx a b)) Q) (hR : all2 seC a.cs b.cs = false → WP X (K .ret rqNo) Q) :
    ∀ (r p s q : List TCons), a.cs = p ++ r → b.cs = q ++ s → p.length = q.length → r.length = s.length → all2 seC a.cs b.cs = all2 seC r s → ∀ σ : St, getT σ.t 2 = .box 2 0 → getT σ.t 3 = .box 3 0 → getT σ.t 6 = vI p.length → getB σ.b 2 = some (mV a) → getB σ.b 3 = some (mV b) → WP X (.loop (lp Tryz.f12 1) σ K) Q
  | r, p, s, q, h, h', hpq, hrs, ha, σ, g2, g3, g5, gb2, gb3 => by
    refine WP.round ⟨[(2, .box 2 0), (3, .box 3 0), (6, vI p.length)], [(2, mV a), (3, mV b)]⟩ ⟨⟨.inl g2.symm, .inl g3.symm, .inl g5.symm, trivial⟩, ⟨WkB.box gb2, WkB.box gb3, trivial⟩⟩ ?_
    have hlen : a.cs.length = p.length + r.length := by rw [h]; simp
    have hsl : (csD a.cs).length = a.cs.length := by simp
    cases r with
    | nil =>
      cases s with
      | cons _ _ => simp at hrs
      | nil =>
        refine WP.iteF (by rw [hsl]; simp at hlen; simp; omega) ?_
        exact WP.leaf ⟨rqEx a b, ⟨⟨.inl rfl, .inl rfl, trivial⟩, ⟨WkB.box rfl, WkB.box rfl, trivial⟩⟩, hE (by rw [ha]; rfl)⟩
    | cons x r =>
      cases s with
      | nil => simp at hrs
      | cons y s =>
        simp only [List.length_cons] at hlen hrs
        rw [all2] at ha
        have hnext : seC x y = true → ∀ σ : St, getT σ.t 2 = .box 2 0 → getT σ.t 3 = .box 3 0 → getT σ.t 6 = vI (IntKind.i64.wrap ((p.length : Int) + 1)) → getB σ.b 2 = some (mV a) → getB σ.b 3 = some (mV b) → WP X (.loop (lp Tryz.f12 1) σ K) Q := fun hxy σ g2 g3 g5 gb2 gb3 => by
          refine rqC_loop a b hk hsm K Q hE hR r (p ++ [x]) s (q ++ [y]) (by rw [h]; simp) (by rw [h']; simp) (by simp [hpq]) (by omega) (by rw [ha, hxy]; rfl) σ g2 g3 ?_ gb2 gb3
          rw [g5, wrapI (by omega) (by omega)]; simp
        have hno : seC x y = false → WP X (K .ret rqNo) Q := fun hxy => hR (by rw [ha, hxy]; rfl)
        have i1 : (csD a.cs)[((p.length : Int)).toNat]? = some (cD x) := map_get (fun x => cD x) h
        have i2 : (csD b.cs)[((p.length : Int)).toNat]? = some (cD y) := by rw [hpq]; exact map_get (fun x => cD x) h'
        have hee := rsameE (X := X) x.e y.e (hsm x (by rw [h]; simp))
        refine WP.iteT (by rw [hsl]; simp; omega) ?_
        refine WP.asrt (by kernel_rfl) ?_
        refine WP.idx _ (by omega) i1 ?_
        refine WP.idx _ (by omega) i2 ?_
        have e0 : seC x y = (decide (x.nm = y.nm) && ((x.ex == y.ex) && seE x.e y.e)) := rfl
        repeat' first | refine WP.iteT (by assumption) ?_ | refine WP.iteF (by assumption) ?_ | refine WP.asrt (by kernel_rfl) ?_ | refine WP.use1 hee ?_ | refine WP.ite (fun _ => ?_) (fun _ => ?_) | refine WP.leaf ?_
        all_goals first
          | (have hz : seC x y = false := by
              refine Bool.eq_false_iff.2 (fun hz => ?_)
              rw [hz] at e0
              clear hnext hno hR hE hee ha g2 g3 g5 gb2 gb3 i1 i2
              simp_all
              done
             exact ⟨rqNo, ⟨⟨.inl rfl, trivial⟩, trivial⟩, hno hz⟩)
          | (have hz : seC x y = true := by
              rw [e0]
              clear hnext hno hR hE hee ha g2 g3 g5 gb2 gb3 i1 i2 e0
              simp_all
             exact hnext hz _ rfl rfl rfl rfl rfl)
set_option maxHeartbeats 4000000 in
theorem rqP_loop {β : Type} (a b : TMod) (f g : TFunc) (hk : f.ps.length ≤ 1000000000) (n9 : Int) (K : Ex → St → Id.T β) (Q : β → Prop)
    (hE : all2 seP f.ps g.ps = true → WP X (K (.exit 6) ⟨[(2, .box 2 0), (3, .box 3 0), (9, vI n9)], [(2, mV a), (3, mV b)]⟩) Q) (hR : all2 seP f.ps g.ps = false → WP X (K .ret rqNo) Q) :
    ∀ (r p s q : List TParam), f.ps = p ++ r → g.ps = q ++ s → p.length = q.length → r.length = s.length → all2 seP f.ps g.ps = all2 seP r s → ∀ σ : St, getT σ.t 2 = .box 2 0 → getT σ.t 3 = .box 3 0 → getT σ.t 9 = vI n9 → getT σ.t 10 = .box 10 0 → getT σ.t 11 = .box 11 0 → getT σ.t 12 = vI p.length → getB σ.b 2 = some (mV a) → getB σ.b 3 = some (mV b) → getB σ.b 10 = some [vS f.nm, vB f.ex, vI f.a, .d (.sl 2 (psD f.ps)), vI f.res, .d (.sl 16 (ssAll f.body))] → getB σ.b 11 = some [vS g.nm, vB g.ex, vI g.a, .d (.sl 2 (psD g.ps)), vI g.res, .d (.sl 16 (ssAll g.body))] → WP X (.loop (lp Tryz.f12 3) σ K) Q
  | r, p, s, q, h, h', hpq, hrs, ha, σ, g2, g3, g9, g10, g11, g12, gb2, gb3, gb10, gb11 => by
    refine WP.round ⟨[(2, .box 2 0), (3, .box 3 0), (9, vI n9), (10, .box 10 0), (11, .box 11 0), (12, vI p.length)], [(2, mV a), (3, mV b), (10, [vS f.nm, vB f.ex, vI f.a, .d (.sl 2 (psD f.ps)), vI f.res, .d (.sl 16 (ssAll f.body))]), (11, [vS g.nm, vB g.ex, vI g.a, .d (.sl 2 (psD g.ps)), vI g.res, .d (.sl 16 (ssAll g.body))])]⟩ ⟨⟨.inl g2.symm, .inl g3.symm, .inl g9.symm, .inl g10.symm, .inl g11.symm, .inl g12.symm, trivial⟩, ⟨WkB.box gb2, WkB.box gb3, WkB.box gb10, WkB.box gb11, trivial⟩⟩ ?_
    have hlen : f.ps.length = p.length + r.length := by rw [h]; simp
    have hsl : (psD f.ps).length = f.ps.length := by simp
    cases r with
    | nil =>
      cases s with
      | cons _ _ => simp at hrs
      | nil =>
        refine WP.iteF (by rw [hsl]; simp at hlen; simp; omega) ?_
        exact WP.leaf ⟨⟨[(2, .box 2 0), (3, .box 3 0), (9, vI n9)], [(2, mV a), (3, mV b)]⟩, ⟨⟨.inl rfl, .inl rfl, .inl rfl, trivial⟩, ⟨WkB.box rfl, WkB.box rfl, trivial⟩⟩, hE (by rw [ha]; rfl)⟩
    | cons x r =>
      cases s with
      | nil => simp at hrs
      | cons y s =>
        simp only [List.length_cons] at hlen hrs
        rw [all2] at ha
        have hnext : seP x y = true → ∀ σ : St, getT σ.t 2 = .box 2 0 → getT σ.t 3 = .box 3 0 → getT σ.t 9 = vI n9 → getT σ.t 10 = .box 10 0 → getT σ.t 11 = .box 11 0 → getT σ.t 12 = vI (IntKind.i64.wrap ((p.length : Int) + 1)) → getB σ.b 2 = some (mV a) → getB σ.b 3 = some (mV b) → getB σ.b 10 = some [vS f.nm, vB f.ex, vI f.a, .d (.sl 2 (psD f.ps)), vI f.res, .d (.sl 16 (ssAll f.body))] → getB σ.b 11 = some [vS g.nm, vB g.ex, vI g.a, .d (.sl 2 (psD g.ps)), vI g.res, .d (.sl 16 (ssAll g.body))] → WP X (.loop (lp Tryz.f12 3) σ K) Q := fun hxy σ g2 g3 g9 g10 g11 g12 gb2 gb3 gb10 gb11 => by
          refine rqP_loop a b f g hk n9 K Q hE hR r (p ++ [x]) s (q ++ [y]) (by rw [h]; simp) (by rw [h']; simp) (by simp [hpq]) (by omega) (by rw [ha, hxy]; rfl) σ g2 g3 g9 g10 g11 ?_ gb2 gb3 gb10 gb11
          rw [g12, wrapI (by omega) (by omega)]; simp
        have hno : seP x y = false → WP X (K .ret rqNo) Q := fun hxy => hR (by rw [ha, hxy]; rfl)
        have i1 : (psD f.ps)[((p.length : Int)).toNat]? = some (pD x) := map_get (fun x => pD x) h
        have i2 : (psD g.ps)[((p.length : Int)).toNat]? = some (pD y) := by rw [hpq]; exact map_get (fun x => pD x) h'
        refine WP.iteT (by rw [hsl]; simp; omega) ?_
        refine WP.asrt (by kernel_rfl) ?_
        refine WP.idx _ (by omega) i1 ?_
        refine WP.idx _ (by omega) i2 ?_
        have e0 : seP x y = (decide (x.nm = y.nm) && decide (x.t = y.t)) := rfl
        repeat' first | refine WP.iteT (by assumption) ?_ | refine WP.iteF (by assumption) ?_ | refine WP.asrt (by kernel_rfl) ?_ | refine WP.ite (fun _ => ?_) (fun _ => ?_) | refine WP.leaf ?_
        all_goals first
          | (have hz : seP x y = false := by
              refine Bool.eq_false_iff.2 (fun hz => ?_)
              rw [hz] at e0
              clear hnext hno hR hE ha i1 i2
              simp_all
              done
             exact ⟨rqNo, ⟨⟨.inl rfl, trivial⟩, trivial⟩, hno hz⟩)
          | (have hz : seP x y = true := by
              rw [e0]
              clear hnext hno hR hE ha i1 i2 e0
              simp_all
             exact hnext hz _ rfl rfl rfl rfl rfl rfl rfl rfl rfl rfl)
end
end Go.Proofs.YtaddhpeainliiaaGreatDoor.Id
/-! ## PrSe -/
namespace Go.Proofs.YtaddhpeainliiaaGreatDoor.Id
open Go
set_option linter.unusedVariables false
set_option linter.unusedSimpArgs false
set_option maxRecDepth 100000
section
variable {X : Given}
set_option maxHeartbeats 4000000 in
theorem rqF_loop (a b : TMod) (hk : a.fs.length ≤ 1000000000) (hsm : ∀ f ∈ a.fs, SmF f) (K : Ex → St → Id.T Out) (Q : Out → Prop)
    (hE : all2 seF a.fs b.fs = true → WP X (K (.exit 4) ⟨[], []⟩) Q) (hR : all2 seF a.fs b.fs = false → WP X (K .ret rqNo) Q) :
    ∀ (r p s q : List TFunc), a.fs = p ++ r → b.fs = q ++ s → p.length = q.length → r.length = s.length → all2 seF a.fs b.fs = all2 seF r s → ∀ σ : St, getT σ.t 2 = .box 2 0 → getT σ.t 3 = .box 3 0 → getT σ.t 9 = vI p.length → getB σ.b 2 = some (mV a) → getB σ.b 3 = some (mV b) → WP X (.loop (lp Tryz.f12 2) σ K) Q
  | r, p, s, q, h, h', hpq, hrs, ha, σ, g2, g3, g5, gb2, gb3 => by
    refine WP.round ⟨[(2, .box 2 0), (3, .box 3 0), (9, vI p.length)], [(2, mV a), (3, mV b)]⟩ ⟨⟨.inl g2.symm, .inl g3.symm, .inl g5.symm, trivial⟩, ⟨WkB.box gb2, WkB.box gb3, trivial⟩⟩ ?_
    have hlen : a.fs.length = p.length + r.length := by rw [h]; simp
    have hsl : (fsD a.fs).length = a.fs.length := by simp
    cases r with
    | nil =>
      cases s with
      | cons _ _ => simp at hrs
      | nil =>
        refine WP.iteF (by rw [hsl]; simp at hlen; simp; omega) ?_
        exact WP.leaf ⟨⟨[], []⟩, ⟨trivial, trivial⟩, hE (by rw [ha]; rfl)⟩
    | cons x r =>
      cases s with
      | nil => simp at hrs
      | cons y s =>
        simp only [List.length_cons] at hlen hrs
        rw [all2] at ha
        have hsx := hsm x (by rw [h]; simp)
        have hnext : seF x y = true → ∀ σ : St, getT σ.t 2 = .box 2 0 → getT σ.t 3 = .box 3 0 → getT σ.t 9 = vI (IntKind.i64.wrap ((p.length : Int) + 1)) → getB σ.b 2 = some (mV a) → getB σ.b 3 = some (mV b) → WP X (.loop (lp Tryz.f12 2) σ K) Q := fun hxy σ g2 g3 g5 gb2 gb3 => by
          refine rqF_loop a b hk hsm K Q hE hR r (p ++ [x]) s (q ++ [y]) (by rw [h]; simp) (by rw [h']; simp) (by simp [hpq]) (by omega) (by rw [ha, hxy]; rfl) σ g2 g3 ?_ gb2 gb3
          rw [g5, wrapI (by omega) (by omega)]; simp
        have hno : seF x y = false → WP X (K .ret rqNo) Q := fun hxy => hR (by rw [ha, hxy]; rfl)
        have i1 : (fsD a.fs)[((p.length : Int)).toNat]? = some (fD x) := map_get (fun x => fD x) h
        have i2 : (fsD b.fs)[((p.length : Int)).toNat]? = some (fD y) := by rw [hpq]; exact map_get (fun x => fD x) h'
        have hbb := rsameB (X := X) x.body y.body hsx.nb hsx.body
        have hl1 : (psD x.ps).length = x.ps.length := by simp
        have hl2 : (psD y.ps).length = y.ps.length := by simp
        have e0 : seF x y = (decide (x.nm = y.nm) && ((x.ex == y.ex) && (decide (x.res = y.res) && (all2 seP x.ps y.ps && all2 seS x.body y.body)))) := rfl
        refine WP.iteT (by rw [hsl]; simp; omega) ?_
        refine WP.asrt (by kernel_rfl) ?_
        refine WP.idx _ (by omega) i1 ?_
        refine WP.idx _ (by omega) i2 ?_
        by_cases hpl : x.ps.length = y.ps.length
        · have hl3 : ((psD x.ps).length : Int) = (psD y.ps).length := by rw [hl1, hl2]; omega
          have hps := rqP_loop (X := X) (β := Ex × St) a b x y hsx.np
          repeat' first | refine WP.iteT (by assumption) ?_ | refine WP.iteF (by assumption) ?_ | refine WP.iteF (by first | (rw [hl3]; simp; done) | omega) ?_ | refine WP.asrt (by kernel_rfl) ?_ | refine WP.use1 hbb ?_ | refine WP.ite (fun _ => ?_) (fun _ => ?_) | refine WP.leaf ?_
          all_goals first
            | (have hz : seF x y = false := by
                refine Bool.eq_false_iff.2 (fun hz => ?_)
                rw [hz] at e0
                clear hnext hno hR hE hbb ha g2 g3 g5 gb2 gb3 i1 i2 hps
                simp_all
                done
               exact ⟨rqNo, ⟨⟨.inl rfl, trivial⟩, trivial⟩, hno hz⟩)
            | (refine hps p.length _ _ (fun hq => ?_) (fun hq => ?_) x.ps [] y.ps [] rfl rfl rfl hpl rfl _ ?_ ?_ ?_ ?_ ?_ ?_ ?_ ?_ ?_ ?_
               · have hz : seF x y = true := by
                  rw [e0, hq]
                  clear hnext hno hR hE hbb ha g2 g3 g5 gb2 gb3 i1 i2 e0 hps
                  simp_all
                 refine WP.leaf ?_
                 exact hnext hz _ rfl rfl rfl rfl rfl
               · have hz : seF x y = false := by rw [e0, hq]; simp
                 exact WP.leaf ⟨rqNo, ⟨⟨.inl rfl, trivial⟩, trivial⟩, hno hz⟩
               all_goals rfl)
        · have h0 : all2 seP x.ps y.ps = false := all2_len hpl
          have hl3 : ¬ ((psD x.ps).length : Int) = (psD y.ps).length := by rw [hl1, hl2]; omega
          have hz : seF x y = false := by rw [e0, h0]; simp
          repeat' first | refine WP.iteT (by assumption) ?_ | refine WP.iteF (by assumption) ?_ | refine WP.iteT (by first | (rw [decide_eq_false hl3]; rfl) | omega) ?_ | refine WP.asrt (by kernel_rfl) ?_ | refine WP.ite (fun _ => ?_) (fun _ => ?_) | refine WP.leaf ?_
          all_goals exact ⟨rqNo, ⟨⟨.inl rfl, trivial⟩, trivial⟩, hno hz⟩
set_option maxHeartbeats 4000000 in
theorem rsameM (a b : TMod) (h : SmM a) : Does X 12 [.agg (mD a), .agg (mD b)] [] (.ret (vB (seM a b)) []) := by
  have h1 : (isD' a.is).length = a.is.length := by simp
  have h2 : (isD' b.is).length = b.is.length := by simp
  have h3 : (csD a.cs).length = a.cs.length := by simp
  have h4 : (csD b.cs).length = b.cs.length := by simp
  have h5 : (fsD a.fs).length = a.fs.length := by simp
  have h6 : (fsD b.fs).length = b.fs.length := by simp
  have e0 : seM a b = (all2 seI a.is b.is && (all2 seC a.cs b.cs && all2 seF a.fs b.fs)) := rfl
  refine DoesQ.eq (DoesQ.of Tryz.func12 (by kernel_rfl) ?_)
  by_cases l1 : a.is.length = b.is.length
  · have k1 : ((isD' a.is).length : Int) = (isD' b.is).length := by rw [h1, h2]; omega
    refine WP.iteF (by rw [k1]; simp) ?_
    by_cases l2 : a.cs.length = b.cs.length
    · have k2 : ((csD a.cs).length : Int) = (csD b.cs).length := by rw [h3, h4]; omega
      refine WP.iteF (by rw [k2]; simp) ?_
      by_cases l3 : a.fs.length = b.fs.length
      · have k3 : ((fsD a.fs).length : Int) = (fsD b.fs).length := by rw [h5, h6]; omega
        refine WP.iteF (by rw [k3]; simp) ?_
        refine rqI_loop a b h.ni _ _ (fun q1 => ?_) (fun q1 => ?_) a.is [] b.is [] rfl rfl rfl l1 rfl _ rfl rfl rfl rfl rfl
        · refine rqC_loop a b h.nc (fun c hc => (h.cs c hc).2) _ _ (fun q2 => ?_) (fun q2 => ?_) a.cs [] b.cs [] rfl rfl rfl l2 rfl _ rfl rfl rfl rfl rfl
          · refine rqF_loop a b h.nf h.fs _ _ (fun q3 => ?_) (fun q3 => ?_) a.fs [] b.fs [] rfl rfl rfl l3 rfl _ rfl rfl rfl rfl rfl
            · exact WP.leaf (by rw [e0, q1, q2, q3]; rfl)
            · exact WP.leaf (by rw [e0, q1, q2, q3]; rfl)
          · exact WP.leaf (by rw [e0, q1, q2]; rfl)
        · exact WP.leaf (by rw [e0, q1]; rfl)
      · have k3 : ¬ ((fsD a.fs).length : Int) = (fsD b.fs).length := by rw [h5, h6]; omega
        refine WP.iteT (by rw [decide_eq_false k3]; rfl) ?_
        exact WP.leaf (by rw [e0, all2_len l3, Bool.and_false, Bool.and_false])
    · have k2 : ¬ ((csD a.cs).length : Int) = (csD b.cs).length := by rw [h3, h4]; omega
      refine WP.iteT (by rw [decide_eq_false k2]; rfl) ?_
      try refine WP.iteT rfl ?_
      exact WP.leaf (by rw [e0, all2_len l2, Bool.false_and, Bool.and_false])
  · have k1 : ¬ ((isD' a.is).length : Int) = (isD' b.is).length := by rw [h1, h2]; omega
    refine WP.iteT (by rw [decide_eq_false k1]; rfl) ?_
    try refine WP.iteT rfl ?_
    exact WP.leaf (by rw [e0, all2_len l1, Bool.false_and])
end
end Go.Proofs.YtaddhpeainliiaaGreatDoor.Id
/-! ## PrT -/
namespace Go.Proofs.YtaddhpeainliiaaGreatDoor.Id
open Go
set_option linter.unusedVariables false
set_option linter.unusedSimpArgs false
set_option maxRecDepth 100000
abbrev v7 : TVal := ⟨1, 7, false, .empty⟩
abbrev e7 : TExpr := .mk 1 0 .empty .empty v7 0 []
abbrev m7 : TMod := ⟨[], [⟨mkB [99], false, 0, e7⟩], []⟩
abbrev m0 : TMod := ⟨[], [], []⟩
theorem lit7 : litP v7 = [55] := by
  unfold litP
  rw [if_pos rfl, if_pos (by decide)]
  show Lib.itoa 7 = [55]
  unfold Lib.itoa
  rw [if_neg (by decide), Lib.decDigits, dif_pos (by decide)]
  rfl
theorem rE7 (t : Bool) : rE litP e7 t = [55] := by rw [rE]; unfold rNode; rw [if_pos rfl]; exact lit7
theorem rM7 (t : Bool) : rM litP qtP m7 t = yConst ++ (32 :: ([99] ++ (gp t ++ (61 :: (gp t ++ ([55] ++ (59 :: nl t))))))) := by
  unfold rM rC rExp
  simp only [List.map_nil, List.map_cons, rIt, rFs, rE7, L_mkB]
  simp
theorem right7 : rightM m7 = true := by decide +kernel
theorem up7 : upM m7 = 0 := by decide +kernel
theorem sm7 : SzM m7 := ⟨⟨by decide, by decide, by decide, fun x h => (by cases h), fun c h => (by
    rw [List.mem_singleton] at h
    subst h
    refine ⟨by decide, ?_⟩
    show smE e7
    rw [smE]
    exact ⟨by decide, by decide, by decide, trivial⟩), fun f h => (by cases h)⟩, ⟨fun c h => (by
    rw [List.mem_singleton] at h
    subst h
    show rgE e7
    rw [rgE, rgEs]
    exact ⟨by show (7 : Int) ≤ _; decide, trivial⟩), fun f h => (by cases h)⟩, by decide⟩
theorem form7 (t : Bool) : formS m7 t = mkB (yConst ++ (32 :: ([99] ++ (gp t ++ (61 :: (gp t ++ ([55] ++ (59 :: nl t)))))))) ∧ formN m7 t = 0 := by
  unfold formS formN
  rw [if_pos right7, if_pos right7, up7, rM7, if_neg (by decide), if_neg (by cases t <;> decide), if_neg (by decide), if_neg (by cases t <;> decide)]
  exact ⟨rfl, rfl⟩
section
variable {X : Given}
set_option maxHeartbeats 4000000 in
theorem alive_does (hL : LibX X) (hW : WrOK X) : Does X 15 [] [] (.ret (vB true) []) := by
  have d1 := pmodule_does hL hW sm7
  have d2 := ptight_does hL hW sm7
  rw [(form7 false).1, (form7 false).2] at d1
  rw [(form7 true).1, (form7 true).2] at d2
  have d3 := psameM (X := X) m7 m7 sm7.sm
  rw [seM_refl] at d3
  have d4 := psameM (X := X) m7 m0 sm7.sm
  rw [show seM m7 m0 = false from rfl] at d4
  refine DoesQ.eq (DoesQ.of Tryz.func15 (by kernel_rfl) ?_)
  refine WP.use1 d1 ?_
  refine WP.use1 d2 ?_
  refine WP.iteT rfl ?_
  refine WP.iteT rfl ?_
  refine WP.iteT (by decide +kernel) ?_
  refine WP.iteT (by decide +kernel) ?_
  refine WP.use1 d3 ?_
  refine WP.iteT rfl ?_
  refine WP.use1 d4 ?_
  exact WP.leaf rfl
set_option maxHeartbeats 4000000 in
theorem sames_does (hL : LibX X) (hW : WrOK X) (a b : TMod) (e f : TExpr) (ha : SmM a) (he : smE e) (hf : smE f) : Does X 3 [.agg (mD a ++ (mD b ++ (eD e ++ eD f)))] [] (.ret (vB true) []) := by
  have d1 := psameM (X := X) a b ha
  have d2 := rsameM (X := X) a b ha
  have d3 := psameE (X := X) e f he
  have d4 := rsameE (X := X) e f he
  have d5 := psameM (X := X) a a ha
  rw [seM_refl] at d5
  have d6 := psameE (X := X) f f hf
  rw [seE_refl] at d6
  have d7 := alive_does hL hW
  refine DoesQ.eq (DoesQ.of Tryz.func3 (by kernel_rfl) ?_)
  refine WP.asrt (by kernel_rfl) ?_
  refine WP.use1 d1 ?_
  refine WP.use1 d2 ?_
  repeat refine WP.iteT (by simp) ?_
  refine WP.use1 d3 ?_
  repeat refine WP.iteT (by simp) ?_
  refine WP.use1 d4 ?_
  repeat refine WP.iteT (by simp) ?_
  refine WP.use1 d5 ?_
  repeat refine WP.iteT (by simp) ?_
  refine WP.use1 d6 ?_
  repeat refine WP.iteT (by simp) ?_
  refine WP.use1 d7 ?_
  repeat refine WP.iteT (by simp) ?_
  try refine WP.asrt (by kernel_rfl) ?_
  exact WP.leaf rfl
end
end Go.Proofs.YtaddhpeainliiaaGreatDoor.Id
/-! ## PrLawS -/
namespace Go.Proofs.YtaddhpeainliiaaGreatDoor.Id
open Go
theorem sames_law (_ : LibX X0) (t : Two) (h : SmM t.a ∧ smE t.e ∧ smE t.f) : Does (OrX XW) 3 [.agg (twoD t)] [] (.ret (vB true) []) := sames_does oxw_lib oxw_wr t.a t.b t.e t.f h.1 h.2.1 h.2.2
end Go.Proofs.YtaddhpeainliiaaGreatDoor.Id
/-! ## OpenI -/
namespace Go.Proofs.YtaddhpeainliiaaGreatDoor.Opens
theorem bulk_str {H : Type} {s : ByteArray} {l : List (DataW H)} (h : (DataW.lit (.string s.data.toList)) ∈ l) (hk : Rows.uptoSmall H l = true) : s.size ≤ 1048576 := by
  have h1 := bulks.part_le h
  have h2 := bulks.bound hk
  rw [bulks.string_eq] at h1
  have e : s.data.toList.length = s.size := by rw [Array.length_toList]; rfl
  omega
theorem bulk_arg {H : Type} {d : DataW H} {l : List (DataW H)} (h : d ∈ l) (hk : Rows.uptoSmall H l = true) : Rows.uptoBulk d ≤ 1048576 := Nat.le_trans (bulks.part_le h) (bulks.bound hk)
end Go.Proofs.YtaddhpeainliiaaGreatDoor.Opens
/-! ## LawPrintSames -/
namespace Go.Proofs.YtaddhpeainliiaaGreatDoor.printSames
open Go.ChangeShapes Go.WideShapes Go.ChangeAt Go.RowKit
open Go.ChangeMaps (open_string shut_string)
set_option linter.unusedVariables false
set_option linter.unusedSimpArgs false
theorem own : ownKnob Tryz.prog.godebug = none := by kernel_rfl
theorem laidOut : laidOutB Tryz.prog = true := by kernel_rfl
set_option maxRecDepth 100000 in
theorem contract (H : Type) (enc : TypeId × Value → H) (W : World) (args : Array Value) (ds gs : List (DataW H)) (before : List MemPlace)
    (base : Nat) (hval0 : ∀ (j : Nat) t v, Tryz.f3.params[j]? = some t → args[j]? = some v → Value.okWide Tryz.prog W .any base t v)
    (hW : DataW.Whole enc Tryz.prog Tryz.f3.params.toList Rows.printSamesSpec.vars false W args.toList ds gs before) (hk : Rows.uptoSmall H (ds ++ gs) = true) (hL0 : laidMetH Tryz.prog Rows.printSamesUptoRow.laid W) :
    Calls Tryz.prog 3 args W fun e W' => ∃ v, e = .returned v ∧ Rows.printSamesSpec.post enc Tryz.prog Tryz.f3 false true false false W args v W' := by
  have hval := hval0
  have hW' := hW
  obtain ⟨p, q, hA0, hV, rfl, hfz, hnd⟩ := hW
  have hA : DataW.TrodAll enc Tryz.prog W 0 (fun _ => true) true Tryz.f3.params.toList args.toList ds p := hA0
  rw [Tryz.params3] at hA hval
  obtain ⟨v0, vs0, d0, ds0, p0, q0, hargs, rfl, rfl, h0, r0⟩ := trodAll_cons hA
  obtain ⟨rfl, rfl, rfl⟩ := trodAll_nil r0
  obtain rfl : args = #[v0] := by cases args; simp_all
  obtain ⟨rfl, rfl⟩ := trodVars_none hV
  obtain ⟨cs0, rfl⟩ := Id.okWide_agg Tryz.underlying36 (hval 0 36 v0 rfl rfl)
  have k0 := h0
  have lt0 : ∀ x ∈ p0, x.block < W.heap.size := by obtain ⟨m, hm⟩ := k0; exact DataW.trod_lt m _ _ _ hm
  obtain ⟨m0, hm0⟩ := h0
  obtain ⟨a0, ra0, sm0⟩ := Id.trod_two _ _ _ hm0 (Opens.bulk_arg (d := d0) (by simp) hk)
  have hL : laidMet Tryz.prog [("math/bits.deBruijn32tab", Rows.laid_math_bits_deBruijn32tab), ("math/bits.deBruijn64tab", Rows.laid_math_bits_deBruijn64tab), ("internal/strconv.uint64pow10", Rows.laid_internal_strconv_uint64pow10), ("strconv.ErrRange", Rows.laid_strconv_ErrRange), ("strconv.ErrSyntax", Rows.laid_strconv_ErrSyntax)] W := by rw [MakeChecks.laidMetH_plain _ _ _ (by kernel_rfl)] at hL0; exact hL0
  rw [show Rows.laid_internal_strconv_uint64pow10 = (Lib.tabData .u64 Lib.pow10Tab : DataW Unit) by kernel_rfl] at hL
  have hI : P.Inv W := P.inv_of_laid hL
  clear hA0
  refine (Id.row_doesP (args := [.agg (Id.twoD a0)]) (vs := #[.agg cs0]) hI ⟨_, _, rfl, ⟨_, rfl, ra0⟩, rfl⟩ (Id.sames_law Id.x0_lib a0 sm0)).mono fun e W' ⟨he, bel0⟩ => ?_
  have bel : Below W.heap.size W W' := bel0
  subst he
  exact ⟨_, rfl, _, _, _, [], _, [], hW', trodAll_mk1 (shut_bool Tryz.underlying4 _), (trodAll_cons_mk (Below.trod laidOut (by kernel_rfl) (of_decide_eq_true (by kernel_rfl)) k0 bel lt0) trodAll_mk0), rfl, bel.frame _, fun h => by cases h⟩
/-- So many blocks has the settled world. -/
noncomputable def low : Nat := (World.holding Tryz.prog default ⟨#[], #[], []⟩).heap.size
/-- A world for the witness: the settled one, the listed variables holding what their initialisers lay. -/
noncomputable def laidWorld (os : Os) : World :=
  { World.holding Tryz.prog os ⟨#[.cells #[.string { data := #[118, 97, 108, 117, 101, 32, 111, 117, 116, 32, 111, 102, 32, 114, 97, 110, 103, 101] }] 256, .cells #[.string { data := #[105, 110, 118, 97, 108, 105, 100, 32, 115, 121, 110, 116, 97, 120] }] 256], #[], []⟩ with heap := ((((((World.holding Tryz.prog os ⟨#[.cells #[.string { data := #[118, 97, 108, 117, 101, 32, 111, 117, 116, 32, 111, 102, 32, 114, 97, 110, 103, 101] }] 256, .cells #[.string { data := #[105, 110, 118, 97, 108, 105, 100, 32, 115, 121, 110, 116, 97, 120] }] 256], #[], []⟩).heap.modify 2 fun
      | .cells _ t frozen => .cells #[.int .u8 0, .int .u8 1, .int .u8 28, .int .u8 2, .int .u8 29, .int .u8 14, .int .u8 24, .int .u8 3, .int .u8 30, .int .u8 22, .int .u8 20, .int .u8 15, .int .u8 25, .int .u8 17, .int .u8 4, .int .u8 8, .int .u8 31, .int .u8 27, .int .u8 13, .int .u8 23, .int .u8 21, .int .u8 19, .int .u8 16, .int .u8 7, .int .u8 26, .int .u8 12, .int .u8 18, .int .u8 6, .int .u8 11, .int .u8 5, .int .u8 10, .int .u8 9] t frozen
      | o => o).modify 3 fun
      | .cells _ t frozen => .cells #[.int .u8 0, .int .u8 1, .int .u8 56, .int .u8 2, .int .u8 57, .int .u8 49, .int .u8 28, .int .u8 3, .int .u8 61, .int .u8 58, .int .u8 42, .int .u8 50, .int .u8 38, .int .u8 29, .int .u8 17, .int .u8 4, .int .u8 62, .int .u8 47, .int .u8 59, .int .u8 36, .int .u8 45, .int .u8 43, .int .u8 51, .int .u8 22, .int .u8 53, .int .u8 39, .int .u8 33, .int .u8 30, .int .u8 24, .int .u8 18, .int .u8 12, .int .u8 5, .int .u8 63, .int .u8 55, .int .u8 48, .int .u8 27, .int .u8 60, .int .u8 41, .int .u8 37, .int .u8 16, .int .u8 46, .int .u8 35, .int .u8 44, .int .u8 21, .int .u8 52, .int .u8 32, .int .u8 23, .int .u8 11, .int .u8 54, .int .u8 26, .int .u8 40, .int .u8 15, .int .u8 34, .int .u8 20, .int .u8 31, .int .u8 10, .int .u8 25, .int .u8 14, .int .u8 19, .int .u8 9, .int .u8 13, .int .u8 8, .int .u8 7, .int .u8 6] t frozen
      | o => o).modify 0 fun
      | .cells _ t frozen => .cells #[.int .u64 1, .int .u64 10, .int .u64 100, .int .u64 1000, .int .u64 10000, .int .u64 100000, .int .u64 1000000, .int .u64 10000000, .int .u64 100000000, .int .u64 1000000000, .int .u64 10000000000, .int .u64 100000000000, .int .u64 1000000000000, .int .u64 10000000000000, .int .u64 100000000000000, .int .u64 1000000000000000, .int .u64 10000000000000000, .int .u64 100000000000000000, .int .u64 1000000000000000000, .int .u64 10000000000000000000] t frozen
      | o => o).modify 5 fun
      | .cells _ t frozen => .cells #[.iface 254 (.pointer (some ⟨low + 0, 0, none⟩))] t frozen
      | o => o).modify 4 fun
      | .cells _ t frozen => .cells #[.iface 254 (.pointer (some ⟨low + 1, 0, none⟩))] t frozen
      | o => o) }
theorem laid_met (os : Os) : laidMet Tryz.prog Rows.printSamesUptoRow.laid ((laidWorld os).forCall (fun _ _ => 0) ⟨#[], #[.agg #[.slice none 0 0, .slice none 0 0, .slice none 0 0, .slice none 0 0, .slice none 0 0, .slice none 0 0, .int .i64 0, .int .i64 0, .string .empty, .string .empty, .int .i64 0, .int .i64 0, .bool false, .string .empty, .int .i64 0, .slice none 0 0, .int .i64 0, .int .i64 0, .string .empty, .string .empty, .int .i64 0, .int .i64 0, .bool false, .string .empty, .int .i64 0, .slice none 0 0]], []⟩).memory :=
  laidMet_of_run' 8 (by kernel_rfl) (by kernel_rfl)
theorem reads (os : Os) {H : Type} (enc : TypeId × Value → H) : ∃ places, DataW.whole enc Tryz.prog ((laidWorld os).forCall (fun _ _ => 0) ⟨#[], #[.agg #[.slice none 0 0, .slice none 0 0, .slice none 0 0, .slice none 0 0, .slice none 0 0, .slice none 0 0, .int .i64 0, .int .i64 0, .string .empty, .string .empty, .int .i64 0, .int .i64 0, .bool false, .string .empty, .int .i64 0, .slice none 0 0, .int .i64 0, .int .i64 0, .string .empty, .string .empty, .int .i64 0, .int .i64 0, .bool false, .string .empty, .int .i64 0, .slice none 0 0]], []⟩).memory Tryz.f3.params.toList Rows.printSamesSpec.vars false (#[.agg #[.slice none 0 0, .slice none 0 0, .slice none 0 0, .slice none 0 0, .slice none 0 0, .slice none 0 0, .int .i64 0, .int .i64 0, .string .empty, .string .empty, .int .i64 0, .int .i64 0, .bool false, .string .empty, .int .i64 0, .slice none 0 0, .int .i64 0, .int .i64 0, .string .empty, .string .empty, .int .i64 0, .int .i64 0, .bool false, .string .empty, .int .i64 0, .slice none 0 0]] : Array Value).toList 8 = some ([.agg [.agg [.nil, .nil, .nil], .agg [.nil, .nil, .nil], .agg [.lit (.int .i64 0), .lit (.int .i64 0), .lit (.string []), .lit (.string []), .agg [.lit (.int .i64 0), .lit (.int .i64 0), .lit (.bool false), .lit (.string [])], .lit (.int .i64 0), .nil], .agg [.lit (.int .i64 0), .lit (.int .i64 0), .lit (.string []), .lit (.string []), .agg [.lit (.int .i64 0), .lit (.int .i64 0), .lit (.bool false), .lit (.string [])], .lit (.int .i64 0), .nil]]], [], places) :=
  ⟨[], by kernel_rfl⟩
set_option maxRecDepth 100000 in
theorem lifted (os : Os) (started : os.Started) (H : Type) (enc : TypeId × Value → H) (F : Stop.Interp) :
    ReturnsInHanded {} Tryz.checked os 3 .any ((Rows.OpenSpec.upto Rows.printSamesSpec).preRow enc Tryz.prog Tryz.f3 Rows.printSamesUptoRow.domain false Rows.printSamesUptoRow.laid) (((Rows.OpenSpec.upto Rows.printSamesSpec).at F).post enc Tryz.prog Tryz.f3 false true false false) := by
  obtain ⟨places, hx⟩ := reads os enc
  refine returnsInHanded_of_row (C := Tryz.checked) (s := Rows.OpenSpec.upto Rows.printSamesSpec) own started (by kernel_rfl) Tryz.func3
    (witness_row_at (enc := enc) (C := Tryz.checked) false (laidWorld os) #[.agg #[.slice none 0 0, .slice none 0 0, .slice none 0 0, .slice none 0 0, .slice none 0 0, .slice none 0 0, .int .i64 0, .int .i64 0, .string .empty, .string .empty, .int .i64 0, .int .i64 0, .bool false, .string .empty, .int .i64 0, .slice none 0 0, .int .i64 0, .int .i64 0, .string .empty, .string .empty, .int .i64 0, .int .i64 0, .bool false, .string .empty, .int .i64 0, .slice none 0 0]] rfl (by kernel_rfl) (by kernel_rfl) (by kernel_rfl)
      (OpenSpec.preRow_of_cond 8 hx (by kernel_rfl) (fun k hk => by cases hk; kernel_rfl) (by kernel_rfl) (laid_met os))) ?_
  intro W base args ds gs before hval hW _ hcond _ hL0 _ _
  exact contract H enc W args ds gs before base hval hW (hcond _ rfl) hL0
theorem saidUpto : Rows.PrintSamesUptoSaid :=
  OpenClaim.holds_of_cond 3 Tryz.f3 rfl rfl rfl rfl rfl rfl rfl ⟨rfl, rfl, rfl, rfl, rfl⟩ rfl rfl rfl rfl rfl (by kernel_rfl) Tryz.func3 (by kernel_rfl)
    (of_decide_eq_true (by kernel_rfl)) (by unfold Func.isWrapper; first | (rw [if_pos (by decide +kernel)]; kernel_rfl) | (rw [if_neg (by decide +kernel)]; exact ⟨rfl, rfl⟩))
    (fun os started H enc _ F => by rw [OpenClaim.pre_eq_preRow]; exact lifted os started H enc F)
theorem plain (f : FuncId) (fn : Func) (hf : Tryz.pinned.checked.prog.funcNamed "treadle/treadlelaw15.PrintSames" = some f) (hfn : Tryz.pinned.checked.prog.funcs[f]? = some fn) :
    true = Tryz.pinned.checked.prog.looks [] ∧ ∀ (j : Nat) t, fn.params[j]? = some t → Tryz.pinned.checked.prog.wantsStandIn t = false := by
  obtain rfl : f = 3 := Option.some.inj ((show Tryz.prog.funcNamed "treadle/treadlelaw15.PrintSames" = some 3 by kernel_rfl).symm.trans hf) |>.symm
  obtain rfl : fn = Tryz.f3 := (Option.some.inj (Tryz.func3.symm.trans hfn)).symm
  refine ⟨by kernel_rfl, fun j t ht => ?_⟩
  rw [Tryz.params3] at ht
  have hm := Array.mem_of_getElem? ht
  simp only [List.mem_toArray, List.mem_cons, List.not_mem_nil, or_false] at hm
  rcases hm with rfl
  · exact (show Tryz.prog.wantsStandIn 36 = false by kernel_rfl)
theorem cardUpto : Rows.PrintSamesUptoCardSaid :=
  Claim7.holds_tied_plain_at .later [] _ _ _ _ saidUpto (fun _ h => by cases h) (by kernel_rfl) (fun _ h => by cases h) printSamesUpto_row_tie rfl ⟨rfl, rfl⟩ (by kernel_rfl) rfl plain (by kernel_rfl)
#print axioms cardUpto
end Go.Proofs.YtaddhpeainliiaaGreatDoor.printSames
namespace Go.Proofs.YtaddhpeainliiaaGreatDoor
/-- The statement, under a short name, for the claim. -/
theorem printSames_holds : Rows.PrintSamesUptoCardSaid := printSames.cardUpto
end Go.Proofs.YtaddhpeainliiaaGreatDoor
