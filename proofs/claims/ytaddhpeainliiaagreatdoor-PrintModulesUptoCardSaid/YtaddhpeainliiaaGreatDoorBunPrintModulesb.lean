/- Texts of this repo, bundled: IdealG, IdealH, IdealI, IdealJ, IdealK, IdealL, IdealM, IdealN, IdealO. -/
import Derived.Test.YtaddhpeainliiaaGreatDoorBunPrintModulesa
import Derived.Laws.Tables
import Derived.Great.BuildSlice
/-! ## IdealG -/
namespace Go.Proofs.YtaddhpeainliiaaGreatDoor.Id
open Go
set_option linter.unusedSectionVars false
set_option linter.unusedVariables false
set_option linter.unusedSimpArgs false
section
variable {I : World → Prop} {B0 : Nat} {M : Nat → Prop} {P : Program} {tt : TT} {X : Given} {n nt : Nat} {x : Aux} {t : Tmps} {b : Boxes} {a : Act} {w : World}
variable [Ds]
variable {dst : Option Tmp} {ty : TypeId} {pos : String} {after : Array Edge} {guard : Option (Nat × Bool)} {r : Res}
theorem optInt_rep (S : Sim I B0 M nt x t b a w) {o : Option Operand} {l : Option Int} (h : optInt (St.ev ⟨t, b⟩) o = some l) : (o = none ∧ l = none) ∨ ∃ y k j, o = some y ∧ l = some j ∧ a.eval y = .int k j := by
  unfold optInt at h
  split at h
  · cases h; exact .inl ⟨rfl, rfl⟩
  · rename_i y
    split at h
    · rename_i j e
      cases h
      obtain ⟨k, hk⟩ := intOf_rep e (S.ev y)
      exact .inr ⟨y, k, j, rfl, rfl, hk⟩
    · cases h
theorem run_sliceBounds (isS : Bool) (len cap : Nat) (lo hi : Option Value) (l h : Int) (hlo : (lo = none ∧ l = 0) ∨ ∃ k, lo = some (.int k l)) (hhi : (hi = none ∧ h = len) ∨ ∃ k, hi = some (.int k h))
    (h0 : 0 ≤ l) (h1 : l ≤ h) (h2 : h ≤ len) (h3 : len ≤ cap) : (Instr.sliceBounds isS len cap lo hi none).run P w = .ok (l.toNat, h.toNat, cap) w := by
  unfold Instr.sliceBounds
  have b1 : ∀ (k : IntKind) code, (Instr.sliceBound (.int k h) cap code).run P w = .ok h.toNat w := fun k code => by
    rw [run_sliceBound _ _ _ _ _ (by omega) (by omega)]
  have b2 : ∀ (k : IntKind) code, (Instr.sliceBound (.int k l) h.toNat code).run P w = .ok l.toNat w := fun k code => by
    rw [run_sliceBound _ _ _ _ _ (by omega) (by omega)]
  rcases hhi with ⟨rfl, rfl⟩ | ⟨k, rfl⟩ <;> rcases hlo with ⟨rfl, rfl⟩ | ⟨k', rfl⟩
  · simp
  · have := b2 k' .sliceB
    simp only [Int.toNat_natCast] at this
    simp [this]
  · simp [b1]
  · simp [b1, b2]
theorem RepD.sub {h : H} {v : Value} {m : Nat} {es : List (List D)} (r : RepD h v (.sl m es)) : (v = .slice none 0 0 ∧ es = []) ∨ ∃ (ad : Addr) (cap : Nat), v = .slice (some ad) es.length cap ∧ es.length ≤ cap ∧
    ∀ (l k : Nat), l ≤ k → k ≤ es.length → ∀ (sz cap' : Nat), (l ≠ k → sz = m) → k - l ≤ cap' → RepD h (.slice (some (ad.add (l * sz))) (k - l) cap') (.sl m ((es.take k).drop l)) := by
  rcases r.slice with ⟨rfl, rfl⟩ | ⟨ad, cap, vs, rfl, ha, hc, hn, hh, hr⟩
  · exact .inl ⟨rfl, rfl⟩
  · refine .inr ⟨ad, cap, rfl, hc, fun l k hl hk sz cap' hsz hcap => ?_⟩
    have hlen : ((es.take k).drop l).length = k - l := by rw [List.length_drop, List.length_take]; omega
    have hget : ∀ (j : Nat) e, ((es.take k).drop l)[j]? = some e → es[l + j]? = some e ∧ l + j < k := fun j e he => by
      rw [List.getElem?_drop, List.getElem?_take] at he
      split at he
      · exact ⟨he, by assumption⟩
      · cases he
    rw [← hlen]
    by_cases hne : l = k
    · have e0 : (es.take k).drop l = [] := by subst hne; exact List.drop_eq_nil_of_le (by rw [List.length_take]; omega)
      rw [e0]
      exact .sl _ cap' m [] (fun _ _ => undef) (by simp) (by simp) (by simp) (by simp) (by simp)
    · have hsz := hsz hne
      subst hsz
      have hsp : ad.spot = none := ha (by intro e0; rw [e0] at hk; simp at hk; omega)
      obtain ⟨bk, off, sp⟩ := ad
      simp only at hsp
      subst hsp
      rw [add_plain]
      refine .sl _ cap' sz _ (fun j i => vs (l + j) i) (fun _ => rfl) (by rw [hlen]; exact hcap) (fun j e he => hn _ _ (hget j e he).1) (fun j e i y he hy => ?_) (fun j e i y he hy => hr _ _ _ _ (hget j e he).1 hy)
      have := hh _ _ _ _ (hget j e he).1 hy
      simp only at this ⊢
      rw [Nat.add_mul] at this
      rw [show off + l * sz + (j * sz + i) = off + (l * sz + j * sz + i) by omega]
      exact this
theorem op_slice (htt : TTok P tt) (S : Sim I B0 M nt x t b a w) (tq : TypeId) (y : Operand) (lo hi : Option Operand) (h : DenN P tt X n Res (opEff tt ⟨dst, .slice tq y lo hi none, ty, pos, after, guard⟩ (St.ev ⟨t, b⟩) (getB b)) r) : OpOK I B0 M P ⟨dst, .slice tq y lo hi none, ty, pos, after, guard⟩ a x b w r := by
  have hy := S.ev y
  simp only [opEff] at h
  split at h
  · rename_i l k e1 e2
    have blo := optInt_rep S e1
    have bhi := optInt_rep S e2
    unfold evSlice at h
    have hlo' : ((lo.map a.eval) = none ∧ l.getD 0 = 0) ∨ ∃ kk, (lo.map a.eval) = some (.int kk (l.getD 0)) := by
      rcases blo with ⟨rfl, rfl⟩ | ⟨z, kk, j, rfl, rfl, hj⟩
      · exact .inl ⟨rfl, rfl⟩
      · exact .inr ⟨kk, by simp [hj]⟩
    have hhi' : ∀ len : Nat, ((hi.map a.eval) = none ∧ k.getD len = len) ∨ ∃ kk, (hi.map a.eval) = some (.int kk (k.getD len)) := fun len => by
      rcases bhi with ⟨rfl, rfl⟩ | ⟨z, kk, j, rfl, rfl, hj⟩
      · exact .inl ⟨rfl, rfl⟩
      · exact .inr ⟨kk, by simp [hj]⟩
    split at h
    · rename_i s q n1 cmp e3 e4
      rw [e3] at hy
      obtain ⟨d, hu, _, _, _, hs, _⟩ := (htt _ _ e4).kind
      obtain rfl := hs _ rfl
      simp only at h
      obtain ⟨⟨h0, h1, h2⟩, h3⟩ := den_asrt h
      refine OpOK.pure S (v := .string (s.extract (l.getD 0).toNat (k.getD s.size).toNat)) (den_val h3) ?_ (RepD.str _)
      have : (Instr.sliceAt tq (.string s) (lo.map a.eval) (hi.map a.eval) none).run P w = .ok (.string (s.extract (l.getD 0).toNat (k.getD s.size).toNat)) w := by
        rw [run_sliceAt_string w tq _ _ _ _ hu]
        have := run_sliceBounds (P := P) (w := w) false s.size s.size (lo.map a.eval) (hi.map a.eval) _ _ hlo' (hhi' s.size) h0 h1 h2 (Nat.le_refl _)
        simp [Instr.slice, run_underlying hu, this]
      simp only [execOp, hy.str]
      rw [Sem.run_bind]
      show Result.andThen ((Instr.sliceAt tq (.string s) (lo.map a.eval) (hi.map a.eval) none).run P w) _ = _
      rw [this]; rfl
    · rename_i e q by0 n1 zero cmp e4
      split at h
      · rename_i m es e5
        split at h
        case h_2 => exact (den_fail h).elim
        rename_i hqm
        have hqm := Nat.eq_of_beq_eq_true hqm
        obtain ⟨hu, _, ⟨i, zz, hi', hsz, _⟩, _⟩ := (htt _ _ e4).kind
        simp only at h
        obtain ⟨⟨h0, h1, h2⟩, h3⟩ := den_asrt h
        have hr := slOf_rep e5 hy
        have hel : P.elem tq = e := by simp [Program.elem, hu]
        have hrun : ∀ (ad : Option Addr) (cap : Nat), es.length ≤ cap → (Instr.sliceAt tq (.slice ad es.length cap) (lo.map a.eval) (hi.map a.eval) none).run P w =
            .ok (.slice (if cap = (l.getD 0).toNat then ad else ad.map (·.add ((l.getD 0).toNat * q))) ((k.getD es.length).toNat - (l.getD 0).toNat) (cap - (l.getD 0).toNat)) w := by
          intro ad cap hc
          rw [run_sliceAt_slice w tq _ _ _ _ (by rw [hu]; simp [Program.elem, hu])]
          have := run_sliceBounds (P := P) (w := w) true es.length cap (lo.map a.eval) (hi.map a.eval) _ _ hlo' (hhi' es.length) h0 h1 h2 hc
          simp [Instr.slice, run_underlying hu, this, sizeOf, typeInfo, hi', hsz]
        have fin : ∀ v u, (Instr.sliceAt tq (a.eval y) (lo.map a.eval) (hi.map a.eval) none).run P w = .ok v w → RepD x.h v (.sl m u) → u = (es.take (k.getD es.length).toNat).drop (l.getD 0).toNat → OpOK I B0 M P ⟨dst, .slice tq y lo hi none, ty, pos, after, guard⟩ a x b w r := by
          intro v u g1 g2 g3
          subst g3
          refine OpOK.pure S (v := v) (den_val h3) ?_ g2
          simp only [execOp]
          rw [Sem.run_bind]
          show Result.andThen ((Instr.sliceAt tq (a.eval y) (lo.map a.eval) (hi.map a.eval) none).run P w) _ = _
          rw [g1]; rfl
        generalize hv : a.eval y = v at *
        rcases hr.sub with ⟨rfl, rfl⟩ | ⟨ad, cap, rfl, hc, hsub⟩
        · have g := hrun none 0 (Nat.le_refl _)
          have h2' : k.getD 0 ≤ 0 := by simpa using h2
          have h1' : l.getD 0 ≤ k.getD 0 := by simpa using h1
          have e0 : (l.getD 0).toNat = 0 := by omega
          have e1 : (k.getD 0).toNat = 0 := by omega
          refine fin _ [] g ?_ (by simp)
          simp [e0, e1]
          exact .sl0 _
        · have g := hrun (some ad) cap hc
          refine fin _ _ g ?_ rfl
          by_cases hcl : cap = (l.getD 0).toNat
          · rw [if_pos hcl]
            have hlk : (l.getD 0).toNat = (k.getD es.length).toNat := by omega
            have := hsub (l.getD 0).toNat (k.getD es.length).toNat (by omega) (by omega) 0 (cap - (l.getD 0).toNat) (fun hne => absurd hlk hne) (by omega)
            rw [Nat.mul_zero] at this
            simpa [Addr.add] using this
          · rw [if_neg hcl]
            exact hsub _ _ (by omega) (by omega) q _ (fun hne => hqm) (by omega)
      · exact (den_fail h).elim
    · exact (den_fail h).elim
  · exact (den_fail h).elim
/-! ### structs and arrays made -/
theorem setDs_length : ∀ (cs : List D) (i : Nat) (xs : List D), (setDs cs i xs).length = cs.length
  | [], i, xs => by cases xs <;> cases i <;> rfl
  | c :: cs, 0, [] => rfl
  | c :: cs, 0, x :: xs => by simp [setDs, setDs_length cs 0 xs]
  | c :: cs, i + 1, [] => rfl
  | c :: cs, i + 1, x :: xs => by simp [setDs, setDs_length cs i (x :: xs)]
/-- a list's values put in from a place on -/
def putVs : List Value → Nat → List Value → List Value
  | cs, _, [] => cs
  | [], _, _ => []
  | _ :: cs, 0, x :: xs => x :: putVs cs 0 xs
  | c :: cs, i + 1, xs => c :: putVs cs i xs
theorem setDs_rep {h : H} : ∀ {cs : List D} {l : List Value} {i : Nat} {xs : List D} {m : List Value}, RepDs h cs l → RepDs h xs m → RepDs h (setDs cs i xs) (putVs l i m)
  | cs, l, i, [], m, r, q => by
    have : m = [] := q
    subst this
    have e1 : setDs cs i [] = cs := by cases cs <;> cases i <;> rfl
    have e2 : putVs l i [] = l := by cases l <;> cases i <;> rfl
    rw [e1, e2]; exact r
  | [], l, i, x0 :: xs, m, r, q => by
    have : l = [] := r
    subst this
    obtain ⟨v, m0, rfl, _, _⟩ := q
    cases i <;> exact rfl
  | c :: cs, l, 0, x0 :: xs, m, r, q => by
    obtain ⟨v, l0, rfl, r1, r2⟩ := r
    obtain ⟨u, m0, rfl, q1, q2⟩ := q
    exact ⟨u, putVs l0 0 m0, rfl, q1, setDs_rep r2 q2⟩
  | c :: cs, l, i + 1, x0 :: xs, m, r, q => by
    obtain ⟨v, l0, rfl, r1, r2⟩ := r
    obtain ⟨u, m0, rfl, q1, q2⟩ := q
    exact ⟨v, putVs l0 i (u :: m0), rfl, r1, setDs_rep r2 ⟨u, m0, rfl, q1, q2⟩⟩
theorem putVs_cons (l : List Value) (i : Nat) (x : Value) (xs : List Value) (h : i + xs.length < l.length) : putVs l i (x :: xs) = putVs (l.set i x) (i + 1) xs := by
  induction l generalizing i with
  | nil => simp at h
  | cons c l ih =>
    cases i with
    | zero =>
      simp only [putVs, List.set_cons_zero]
      cases xs with
      | nil => cases l <;> rfl
      | cons y ys => rfl
    | succ i =>
      simp only [putVs, List.set_cons_succ]
      rw [ih i (by simp at h; omega)]
      cases xs with
      | nil => cases (l.set i x) <;> rfl
      | cons y ys => rfl
theorem fold_put : ∀ (vs : List Value) (off k : Nat) (cs : Array Value), off + k + vs.length ≤ cs.size → ((vs.zipIdx k).foldl (fun cs (p : Value × Nat) => cs.setIfInBounds (off + p.2) p.1) cs).toList = putVs cs.toList (off + k) vs
  | [], off, k, cs, _ => by
    have : ∀ (l : List Value) (i : Nat), putVs l i [] = l := fun l i => by cases l <;> cases i <;> rfl
    simp [this]
  | v :: vs, off, k, cs, h => by
    rw [List.zipIdx_cons, List.foldl_cons, fold_put vs off (k + 1) _ (by simp at h ⊢; omega)]
    simp only [Array.toList_setIfInBounds]
    rw [putVs_cons _ _ _ _ (by simp at h ⊢; omega)]
    rfl
theorem cellsOf_rep {ti : TI} {u : V} {v : Value} {us : List V} (h : cellsOf ti u = some us) (r : RepV x u v) : RepVs x us v.cells.toList ∧ (isAgg ti.k = true → us.length = ti.n) ∧ (isAgg ti.k = false → us.length = 1) := by
  have hmap : ∀ (ds : List D) (l : List Value), RepDs x.h ds l → RepVs x (ds.map .d) l := by
    intro ds
    induction ds with
    | nil => intro l h; exact h
    | cons y ds ih => intro l h; obtain ⟨v, l0, rfl, h1, h2⟩ := h; exact ⟨v, l0, rfl, h1, ih l0 h2⟩
  have hone : ∀ u : V, (∀ xs, u ≠ .agg xs) → (∀ vs, u ≠ .tuple vs) → u ≠ .undef → u ≠ .skip → RepV x u v → RepVs x [u] v.cells.toList := by
    intro u h1 h2 h3 h4 r
    have : v.cells = #[v] := by
      cases u with
      | agg xs => exact absurd rfl (h1 xs)
      | tuple vs => exact absurd rfl (h2 vs)
      | undef => exact absurd rfl h3
      | skip => exact absurd rfl h4
      | nilp => have e : v = _ := r; subst e; rfl
      | lit c => have e : v = _ := r; subst e; rfl
      | d y => cases (RepV.d r) <;> rfl
      | own _ _ _ => rcases (show RepOwn x _ _ _ v from r) with ⟨rfl, _⟩ | ⟨_, _, rfl, _⟩ <;> rfl
      | box _ _ => have e : v = _ := r; subst e; rfl
      | ref _ => obtain ⟨_, _, rfl, _⟩ := r; rfl
      | fn _ _ _ => obtain ⟨_, _, rfl, _⟩ := r; rfl
      | iface _ _ => obtain ⟨_, rfl, _⟩ := r; rfl
    rw [this]
    exact ⟨v, [], rfl, r, rfl⟩
  have hagg : ∀ ds, u = .agg ds → (match Nat.beq ds.length ti.n with | true => some (ds.map V.d) | false => none) = some us → RepVs x us v.cells.toList ∧ us.length = ti.n := by
    intro ds hu he
    subst hu
    split at he
    · rename_i e
      cases he
      obtain ⟨cs, rfl, q⟩ := r
      exact ⟨hmap _ _ q, by simpa using Nat.eq_of_beq_eq_true e⟩
    · cases he
  unfold cellsOf at h
  cases hk : ti.k <;> rw [hk] at h <;> simp only [isAgg]
  · refine ⟨?_, by simp, fun _ => ?_⟩ <;> (cases u <;> simp only at h <;> first | (cases h; done) | skip) <;> (cases h) <;> first | rfl | exact hone _ (by simp) (by simp) (by simp) (by simp) r
  · cases u <;> first | (cases h; done) | skip
    obtain ⟨h1, h2⟩ := hagg _ rfl h
    exact ⟨h1, fun _ => h2, by simp⟩
  · cases u <;> first | (cases h; done) | skip
    obtain ⟨h1, h2⟩ := hagg _ rfl h
    exact ⟨h1, fun _ => h2, by simp⟩
  · refine ⟨?_, by simp, fun _ => ?_⟩ <;> (cases u <;> simp only at h <;> first | (cases h; done) | skip) <;> (cases h) <;> first | rfl | exact hone _ (by simp) (by simp) (by simp) (by simp) r
theorem toDs_rep : ∀ {us : List V} {ds : List D} {l : List Value}, toDs us = some ds → RepVs x us l → RepDs x.h ds l
  | [], ds, l, h, r => by cases h; exact r
  | u :: us, ds, l, h, r => by
    obtain ⟨v, l0, rfl, r1, r2⟩ := r
    simp only [toDs] at h
    cases h1 : u.toD with
    | none => rw [h1] at h; cases h
    | some y =>
      cases h2 : toDs us with
      | none => rw [h1, h2] at h; cases h
      | some ys =>
        rw [h1, h2] at h
        cases h
        exact ⟨v, l0, rfl, toD_rep h1 r1, toDs_rep h2 r2⟩
theorem cells_size {ti : TI} {tq : Nat} {u : V} {v : Value} {us : List V} (ht : TIok P tq ti) (h : cellsOf ti u = some us) (r : RepV x u v) : v.cells.size = ti.n := by
  obtain ⟨h1, h2, h3⟩ := cellsOf_rep h r
  have e : v.cells.size = us.length := by rw [← Array.length_toList]; exact h1.length
  rw [e]
  cases hk : isAgg ti.k with
  | true => exact h2 hk
  | false => obtain ⟨_, _, _, hn⟩ := notRow_of ht hk; rw [hn]; exact h3 hk
theorem fillF_rep (htt : TTok P tt) (S : Sim I B0 M nt x t b a w) {fs : List (Nat × Nat)} {place : Nat → Option (Nat × Nat)} (hpl : ∀ i off ft ti, fs[i]? = some (off, ft) → TT.get tt ft = some ti → place i = some (off, ti.n)) :
    ∀ (ps : List (Nat × Operand)) (ds ds' : List D) (cs : Array Value), fillF tt fs (ps.map fun p => (p.1, St.ev ⟨t, b⟩ p.2)) ds = some ds' → RepDs x.h ds cs.toList →
      ∃ cs', Instr.fill place cs (ps.map fun p => (p.1, a.eval p.2)) = some cs' ∧ RepDs x.h ds' cs'.toList
  | [], ds, ds', cs, h, r => by cases h; exact ⟨cs, rfl, r⟩
  | (i, y) :: ps, ds, ds', cs, h, r => by
    simp only [List.map_cons, fillF] at h
    cases h1 : fs[i]? with
    | none => rw [h1] at h; cases h
    | some p =>
      obtain ⟨off, ft⟩ := p
      rw [h1] at h
      simp only at h
      cases h2 : TT.get tt ft with
      | none => rw [h2] at h; cases h
      | some ti =>
        rw [h2] at h
        simp only at h
        cases h3 : cellsOf ti (St.ev ⟨t, b⟩ y) with
        | none => rw [h3] at h; cases h
        | some us =>
          rw [h3] at h
          simp only at h
          cases h4 : toDs us with
          | none => rw [h4] at h; cases h
          | some xs =>
            rw [h4] at h
            simp only at h
            split at h
            · rename_i hle
              have hle := Nat.le_of_ble_eq_true hle
              have hsz := cells_size (htt _ _ h2) h3 (S.ev y)
              have hrx := toDs_rep h4 (cellsOf_rep h3 (S.ev y)).1
              have hlen : cs.size = ds.length := by rw [← Array.length_toList]; exact r.length
              have hxl : (a.eval y).cells.toList.length = xs.length := hrx.length
              have hxs : (a.eval y).cells.size = xs.length := by rw [← hxl]; simp
              have hfold := fold_put (a.eval y).cells.toList off 0 cs (by rw [hxl, hlen]; omega)
              obtain ⟨cs', g1, g2⟩ := fillF_rep htt S hpl ps (setDs ds off xs) ds' (((a.eval y).cells.toList.zipIdx 0).foldl (fun cs (p : Value × Nat) => cs.setIfInBounds (off + p.2) p.1) cs) h (by
                rw [hfold]; exact setDs_rep r hrx)
              refine ⟨cs', ?_, g2⟩
              simp only [List.map_cons, Instr.fill, hpl i off ft ti h1 h2]
              rw [if_neg (by simp only [hsz, ne_eq, not_true_eq_false, decide_false, Bool.false_or, decide_eq_true_eq, Bool.or_eq_true, Nat.not_lt]; omega)]
              rw [← g1, ← Array.foldl_toList]
              simp
            · cases h
end
end Go.Proofs.YtaddhpeainliiaaGreatDoor.Id
/-! ## IdealH -/
namespace Go.Proofs.YtaddhpeainliiaaGreatDoor.Id
open Go
set_option linter.unusedSectionVars false
set_option linter.unusedVariables false
set_option linter.unusedSimpArgs false
section
variable {I : World → Prop} {B0 : Nat} {M : Nat → Prop} {P : Program} {tt : TT} {X : Given} {n nt : Nat} {x : Aux} {t : Tmps} {b : Boxes} {a : Act} {w : World}
variable [Ds]
variable {dst : Option Tmp} {ty : TypeId} {pos : String} {after : Array Edge} {guard : Option (Nat × Bool)} {r : Res}
theorem mapM_all {α β : Type} {f : α → Option β} (g : α → β) : ∀ {l : List α}, (∀ x ∈ l, f x = some (g x)) → l.mapM f = some (l.map g)
  | [], _ => rfl
  | y :: l, h => by
    rw [List.mapM_cons, h y (by simp), mapM_all g (fun x hx => h x (by simp [hx]))]
    rfl
theorem op_build (htt : TTok P tt) (S : Sim I B0 M nt x t b a w) (tq : TypeId) (ps : Array (Nat × Operand)) (h : DenN P tt X n Res (opEff tt ⟨dst, .build tq ps, ty, pos, after, guard⟩ (St.ev ⟨t, b⟩) (getB b)) r) : OpOK I B0 M P ⟨dst, .build tq ps, ty, pos, after, guard⟩ a x b w r := by
  simp only [opEff] at h
  have fin : ∀ (cells : Array Value) (ds : List D), P.built tq (ps.toList.map fun p => (p.1, a.eval p.2)) = some cells → RepDs x.h ds cells.toList → DenN P tt X n Res (val (.agg ds)) r → OpOK I B0 M P ⟨dst, .build tq ps, ty, pos, after, guard⟩ a x b w r := by
    intro cells ds h1 h2 h3
    refine OpOK.pure S (v := .agg cells) (den_val h3) ?_ ⟨cells, rfl, h2⟩
    simp only [execOp]
    rw [Sem.run_bind, run_build w tq _ cells (by rw [Array.toList_map]; exact h1)]
    rfl
  split at h
  · rename_i fs n1 zero cmp e1
    obtain ⟨fields, hu, rfl, hne, _⟩ := (htt _ _ e1).kind
    obtain ⟨it, z, hit, hsz, hz, hzr⟩ := (htt _ _ e1).info
    split at h
    · rename_i zs e2
      split at h
      · rename_i ds e3
        have hinfo : ∀ f ∈ fields.toList, ∃ i, P.info? f.type = some i ∧ i.size = P.cellsOf f.type := fun f hf => by
          have := hne f hf
          cases hq : P.info? f.type with
          | none => simp [Program.cellsOf, hq] at this
          | some i => exact ⟨i, rfl, by simp [Program.cellsOf, hq]⟩
        have hm := mapM_all (f := fun f => (P.info? f.type).map fun i => (f.offset, i.size)) (fun f => (f.offset, P.cellsOf f.type)) (l := fields.toList) (fun f hf => by
          obtain ⟨i, h1, h2⟩ := hinfo f hf
          simp [h1, h2])
        obtain ⟨cs', g1, g2⟩ := fillF_rep htt S (place := ((fields.toList.map fun f => (f.offset, P.cellsOf f.type)).toArray[·]?)) (fun i off ft ti hi ht => by
          rw [List.getElem?_map, Array.getElem?_toList] at hi
          cases hf : fields[i]? with
          | none => rw [hf] at hi; cases hi
          | some fl =>
            rw [hf] at hi
            simp only [Option.map_some, Option.some.injEq, Prod.mk.injEq] at hi
            obtain ⟨rfl, rfl⟩ := hi
            have hs := info_size (htt _ _ ht)
            simp only [List.getElem?_toArray, List.getElem?_map, Array.getElem?_toList, hf, Option.map_some, Option.some.injEq, Prod.mk.injEq, true_and]
            unfold Program.cellsOf
            rw [hs]; rfl) ps.toList zs ds z.cells e3 (toDs_rep e2 (hzr x))
        refine fin cs' ds ?_ g2 h
        simp only [Program.built, hit, hu, hz, hm]
        exact g1
      · exact (den_fail h).elim
    · exact (den_fail h).elim
  · rename_i e len n1 zero cmp e1
    have hu : P.underlying tq = some (.array len e) := (htt _ _ e1).kind
    obtain ⟨it, z, hit, hsz, hz, hzr⟩ := (htt _ _ e1).info
    split at h
    · rename_i te zs e2 e3
      obtain ⟨ie, ze, hie, hes, _⟩ := (htt _ _ e2).info
      split at h
      · rename_i ds e4
        obtain ⟨cs', g1, g2⟩ := fillF_rep htt S (place := fun i => some (i * ie.size, ie.size)) (fun i off ft ti hi ht => by
          rw [List.getElem?_map] at hi
          cases hr : (List.range len)[i]? with
          | none => rw [hr] at hi; cases hi
          | some j =>
            rw [hr] at hi
            have hj : j = i := by
              obtain ⟨_, hj⟩ := List.getElem?_eq_some_iff.1 hr
              simpa using hj.symm
            subst hj
            simp only [Option.map_some, Option.some.injEq, Prod.mk.injEq] at hi
            obtain ⟨rfl, rfl⟩ := hi
            rw [e2] at ht
            cases ht
            rw [hes]) ps.toList zs ds z.cells e4 (toDs_rep e3 (hzr x))
        refine fin cs' ds ?_ g2 h
        simp only [Program.built, hit, hu, hz, hie]
        exact g1
      · exact (den_fail h).elim
    · exact (den_fail h).elim
  · exact (den_fail h).elim
/-! ### new boxes -/
theorem np_rep {x : Aux} {u : V} {v : Value} (h : hdNP u = true) (r : RepV x u v) (l : List Value) : pw (v :: l) = false := by
  cases u with
  | d y => cases (RepV.d r) <;> rfl
  | lit b => have e : v = _ := r; subst e; rfl
  | own k n es => rcases (show RepOwn x k n es v from r) with ⟨rfl, _⟩ | ⟨_, _, rfl, _⟩ <;> rfl
  | _ => cases h
theorem p_rep {x : Aux} {u : V} {v : Value} (h : hdP u = true) (r : RepV x u v) (l : List Value) : pw (v :: l) = true := by
  cases u with
  | nilp => have e : v = _ := r; subst e; rfl
  | box i o => have e : v = _ := r; subst e; rfl
  | _ => cases h
theorem alOk_pw {x : Aux} {cs : List V} {ws : Array Value} {tq : TypeId} (h : alOk cs tq = true) (hr : RepVs x cs ws.toList) : pw ws.toList = true → kn ws.size tq = true := fun hp => by
  have hl : ws.size = cs.length := by rw [← Array.length_toList]; exact hr.length
  rw [hl]
  unfold alOk at h
  cases hk : knAny cs.length with
  | true => exact knAny_kn hk tq
  | false =>
    rw [hk] at h
    cases cs with
    | nil => have e : ws.toList = [] := hr; rw [e] at hp; cases hp
    | cons c r =>
      obtain ⟨v, l, e, h1, h2⟩ := hr
      cases hc : hdNP c with
      | true => rw [e, np_rep hc h1 l] at hp; cases hp
      | false => simp only [hc] at h; exact h
theorem EffOK.newBox (S : Sim I B0 M nt x t b a w) (hI : Stable I B0) {w' : World} (d : Nat) (hdb : d < base) (cs : List V) (ws : Array Value) (tq : TypeId) (hheap : w'.heap = w.heap.push (.cells ws tq (0, 0))) (h1 : w'.os = w.os) (h2 : w'.tape = w.tape) (h3 : w'.output = w.output)
    (hr : ∀ x' : Aux, x'.h = x.h → (∀ i, i ≠ d → x'.ρ i = x.ρ i) → x'.z = x.z → x'.u = x.u → RepVs x' cs ws.toList) (hkt : pw ws.toList = true → kn ws.size tq = true) :
    ∃ x', EffOK I B0 M x b { v := .box d 0, wr := [(d, cs)], drp := [d] } w (.pointer (some ⟨w.heap.size, 0, none⟩)) x' w' := by
  refine ⟨{ x with ρ := fun i => if i = d then w.heap.size else x.ρ i }, fun _ _ _ h => h, fun i hi => ?_, fun _ _ => rfl, fun b1 hb => ?_, ?_, ?_, fun _ h => h⟩
  · simp only [List.mem_singleton] at hi
    simp [hi]
  · have hlt : ∀ k, k < w.heap.size → w'.heap[k]? = w.heap[k]? := fun k hk => by rw [hheap]; exact push_lt hk
    have hρd : ∀ i, getB b i ≠ none → i ≠ d → x.ρ i < w.heap.size := fun i hi _ => by
      cases hg : getB b i with
      | none => exact absurd hg hi
      | some cs => exact S.ws.lt hg
    have hwr : ∀ i, getB [(d, cs)] i = if d = i then some cs else none := fun i => by
      simp only [getB]
      by_cases h : d = i
      · subst h; simp
      · have : Nat.beq d i = false := by rw [← Bool.not_eq_true]; exact fun e => h (Nat.eq_of_beq_eq_true e)
        rw [this, if_neg h]
    refine S.ws.step hI hb (fun _ _ _ h => h) (fun i hi => by simp only [List.mem_singleton] at hi; simp [hi]) (fun _ _ => rfl) (by rw [hheap]; simp) (fun k hk => ?_) (fun k o v hv => ?_) (fun i c0 hn hc => ?_) (fun i c0 hn => ?_) (fun i j hi hj hij => ?_) (fun t' k s e hz => ?_) S.ws.zinj (fun t' k s e i hz hi => ?_) (fun k hk => (let ⟨ws2, f2, h2⟩ := S.ws.uu k hk; ⟨ws2, f2, by rw [hlt k (heap_lt h2)]; exact h2⟩)) (fun _ h => h) (fun i c0 hn ws2 t2 f2 hh2 => ?_)
    rotate_left 7
    · rw [hwr] at hn
      by_cases e : d = i
      · subst e
        simp only [if_true] at hh2
        rw [hheap, push_eq] at hh2
        cases hh2; exact hkt
      · rw [if_neg e] at hn; cases hn
    · rcases Nat.lt_or_ge k w.heap.size with g | g
      · exact hlt k g
      · exact absurd (S.ws.top k g) hk
    · have hc := S.ws.agree k o v hv
      rw [cell_of_block (w := w) (hlt k (cell_lt hc))]; exact hc
    · rw [hwr] at hn
      have hne : ¬ d = i := fun e => by rw [if_pos e] at hn; cases hn
      exact ⟨by simp only [List.mem_singleton]; exact fun e => hne e.symm, hlt _ (S.ws.lt hc), (S.ws.box i c0 hc).2.1⟩
    · rw [hwr] at hn
      by_cases e : d = i
      · subst e
        rw [if_pos rfl] at hn
        cases hn
        simp only [if_true]
        refine ⟨S.ws.top _ (Nat.le_refl _), fun o => S.ws.h_none (Nat.le_refl _) o, ws, tq, by rw [hheap]; exact push_eq, hr _ rfl (fun i hi => by simp [hi]) rfl rfl⟩
      · rw [if_neg e] at hn; cases hn
    · rw [hwr] at hi hj
      simp only at hij
      by_cases ei : i = d <;> by_cases ej : j = d
      · rw [ei, ej]
      · rw [if_pos ei, if_neg ej] at hij
        have hj' := hj.resolve_left (by rw [if_neg (fun e => ej e.symm)]; simp)
        have := hρd j hj' ej
        omega
      · rw [if_neg ei, if_pos ej] at hij
        have hi' := hi.resolve_left (by rw [if_neg (fun e => ei e.symm)]; simp)
        have := hρd i hi' ei
        omega
      · rw [if_neg ei, if_neg ej] at hij
        have hi' := hi.resolve_left (by rw [if_neg (fun e => ei e.symm)]; simp)
        have hj' := hj.resolve_left (by rw [if_neg (fun e => ej e.symm)]; simp)
        cases h4 : getB b i with
        | none => exact absurd h4 hi'
        | some c1 =>
          cases h5 : getB b j with
          | none => exact absurd h5 hj'
          | some c2 => exact S.ws.inj i j c1 c2 h4 h5 hij
    · obtain ⟨g1, g2, g3, ws', ty', g4, g5⟩ := S.ws.zone t' k s e hz
      exact ⟨g1, g2, g3, ws', ty', by rw [hlt k (heap_lt g4)]; exact g4, g5⟩
    · rw [hwr] at hi
      have hk := S.ws.zlt hz
      by_cases ei : i = d
      · simp only [if_pos ei]; omega
      · simp only [if_neg ei]
        have hi' := hi.resolve_left (by rw [if_neg (fun e => ei e.symm)]; simp)
        cases h4 : getB b i with
        | none => exact absurd h4 hi'
        | some c1 => exact S.ws.zbox t' k s e i c1 hz h4
  · exact Ext.push S.ws hheap h1 h2 h3 |>.trans ⟨rfl, rfl, rfl, Nat.le_refl _, fun _ _ => rfl, fun _ _ _ h => h, fun _ _ => rfl, fun i hi => if_neg (by omega), fun _ h => h⟩
  · show RepV _ (.box d 0) _
    simp [RepV, RepN]
theorem op_alloc (htt : TTok P tt) (hdb : ∀ d, dst = some d → d < base) (hI : Stable I B0) (S : Sim I B0 M nt x t b a w) (tq : TypeId) (h : DenN P tt X n Res (opEff tt ⟨dst, .alloc tq, ty, pos, after, guard⟩ (St.ev ⟨t, b⟩) (getB b)) r) : OpOK I B0 M P ⟨dst, .alloc tq, ty, pos, after, guard⟩ a x b w r := by
  simp only [opEff] at h
  split at h
  · rename_i d ti e1
    obtain ⟨it, z, hit, hsz, hz, hzr⟩ := (htt _ _ e1).info
    split at h
    rotate_left
    · exact (den_fail h).elim
    rename_i ekn
    obtain rfl := den_leaf h
    refine ⟨fun _ => ?_, fun u hu => by cases hu⟩
    obtain ⟨x', hx⟩ := EffOK.newBox S hI (w' := w.alloc (.cells z.cells tq)) d (hdb d rfl) ti.zero z.cells tq rfl rfl rfl rfl (fun x' _ _ _ _ => hzr x') (alOk_pw ekn (hzr x))
    refine ⟨_, x', _, .inl ?_, hx⟩
    simp only [execOp]
    rw [Sem.run_bind]
    have : (Instr.alloc tq true (.tuple #[])).run P w = .ok (.pointer (some ⟨w.heap.size, 0, none⟩)) (w.alloc (.cells z.cells tq)) := by
      simp [Instr.alloc, zeroValue, typeInfo, newVar, newRow, newObj, program, go_sem, hit, hz, Sem.run]
    rw [this]; rfl
  · exact (den_fail h).elim
theorem op_box (htt : TTok P tt) (hdb : ∀ d, dst = some d → d < base) (hI : Stable I B0) (S : Sim I B0 M nt x t b a w) (tq : TypeId) (y : Operand) (h : DenN P tt X n Res (opEff tt ⟨dst, .box tq y, ty, pos, after, guard⟩ (St.ev ⟨t, b⟩) (getB b)) r) : OpOK I B0 M P ⟨dst, .box tq y, ty, pos, after, guard⟩ a x b w r := by
  have hy := (S.ev y).plain
  simp only [opEff] at h
  split at h
  · rename_i d ti e1
    split at h
    · rename_i cs e2
      split at h
      rotate_left
      · exact (den_fail h).elim
      rename_i ekn
      obtain rfl := den_leaf h
      refine ⟨fun _ => ?_, fun u hu => by cases hu⟩
      obtain ⟨hc, _, _⟩ := cellsOf_rep e2 hy
      obtain ⟨x', hx⟩ := EffOK.newBox S hI (w' := w.alloc (.cells (a.eval y).cells tq)) d (hdb d rfl) (cleanVs [] [d] cs) (a.eval y).cells tq rfl rfl rfl rfl (fun x' h1 h2 h3 h4 => hc.clean (fun k o v hv => by rw [h1]; exact hv) (fun i hi => h2 i (by simpa using hi)) (fun t _ => by rw [h3]) (fun k hk => by rw [h4]; exact hk)) (alOk_pw ekn hc)
      refine ⟨_, x', _, .inl ?_, hx⟩
      simp only [execOp]
      rw [Sem.run_bind]
      have : (Instr.box tq (a.eval y)).run P w = .ok (.pointer (some ⟨w.heap.size, 0, none⟩)) (w.alloc (.cells (a.eval y).cells tq)) := by
        simp [Instr.box, newVar, newRow, newObj, go_sem, Sem.run]
      rw [this]; rfl
    · exact (den_fail h).elim
  · exact (den_fail h).elim
end
end Go.Proofs.YtaddhpeainliiaaGreatDoor.Id
/-! ## IdealI -/
namespace Go.Proofs.YtaddhpeainliiaaGreatDoor.Id
open Go
set_option linter.unusedSectionVars false
set_option linter.unusedVariables false
set_option linter.unusedSimpArgs false
section
variable {I : World → Prop} {B0 : Nat} {M : Nat → Prop} {P : Program} {tt : TT} {X : Given} {n nt : Nat} {x : Aux} {t : Tmps} {b : Boxes} {a : Act} {w : World}
variable [Ds]
variable {dst : Option Tmp} {ty : TypeId} {pos : String} {after : Array Edge} {guard : Option (Nat × Bool)} {r : Res}
theorem putVs_eq : ∀ (l : List Value) (i : Nat) (m : List Value), i + m.length ≤ l.length → putVs l i m = l.take i ++ m ++ l.drop (i + m.length)
  | l, i, [], _ => by
    have : putVs l i [] = l := by cases l <;> cases i <;> rfl
    simp [this]
  | [], i, y :: m, h => by simp at h
  | c :: l, 0, y :: m, h => by
    simp only [putVs]
    rw [putVs_eq l 0 m (by simp at h ⊢; omega)]
    simp [Nat.add_comm]
  | c :: l, i + 1, y :: m, h => by
    simp only [putVs]
    rw [putVs_eq l i (y :: m) (by simp at h ⊢; omega), show i + 1 + (y :: m).length = (i + (y :: m).length) + 1 by omega]
    simp
theorem setAt_rep : ∀ {cs : List V} {l : List Value} {i : Nat} {us : List V} {m : List Value}, RepVs x cs l → RepVs x us m → RepVs x (setAt cs i us) (putVs l i m)
  | cs, l, i, [], m, r, q => by
    have : m = [] := q
    subst this
    have e1 : setAt cs i [] = cs := by cases cs <;> cases i <;> rfl
    have e2 : putVs l i [] = l := by cases l <;> cases i <;> rfl
    rw [e1, e2]; exact r
  | [], l, i, x0 :: xs, m, r, q => by
    have : l = [] := r
    subst this
    obtain ⟨v, m0, rfl, _, _⟩ := q
    cases i <;> exact rfl
  | c :: cs, l, 0, x0 :: xs, m, r, q => by
    obtain ⟨v, l0, rfl, r1, r2⟩ := r
    obtain ⟨u, m0, rfl, q1, q2⟩ := q
    exact ⟨u, putVs l0 0 m0, rfl, q1, setAt_rep r2 q2⟩
  | c :: cs, l, i + 1, x0 :: xs, m, r, q => by
    obtain ⟨v, l0, rfl, r1, r2⟩ := r
    obtain ⟨u, m0, rfl, q1, q2⟩ := q
    exact ⟨v, putVs l0 i (u :: m0), rfl, r1, setAt_rep r2 ⟨u, m0, rfl, q1, q2⟩⟩
theorem cellsOf_one {ti : TI} {u : V} {v : Value} {us : List V} (h : cellsOf ti u = some us) (r : RepV x u v) : ∀ c ∈ v.cells.toList, c.oneCell' = true := by
  have hds : ∀ (ds : List D) (l : List Value), RepDs x.h ds l → ∀ c ∈ l, c.oneCell' = true := by
    intro ds
    induction ds with
    | nil => intro l h c hc; have : l = [] := h; subst this; cases hc
    | cons y ds ih =>
      intro l h c hc
      obtain ⟨v, l0, rfl, h1, h2⟩ := h
      cases hc with
      | head => exact h1.one
      | tail _ hc => exact ih l0 h2 c hc
  cases u with
  | agg xs => obtain ⟨cs, rfl, q⟩ := r; exact hds _ _ q
  | tuple vs => unfold cellsOf at h; cases hk : ti.k <;> rw [hk] at h <;> cases h
  | undef => unfold cellsOf at h; cases hk : ti.k <;> rw [hk] at h <;> cases h
  | skip => unfold cellsOf at h; cases hk : ti.k <;> rw [hk] at h <;> cases h
  | nilp => have e : v = _ := r; subst e; intro c hc; simp [Value.cells] at hc; subst hc; rfl
  | lit c => have e : v = _ := r; subst e; intro c hc; simp [Value.cells] at hc; subst hc; rfl
  | d y => cases (RepV.d r) <;> (intro c hc; simp [Value.cells] at hc; subst hc; rfl)
  | own _ _ _ => rcases (show RepOwn x _ _ _ v from r) with ⟨rfl, _⟩ | ⟨_, _, rfl, _⟩ <;> (intro c hc; simp [Value.cells] at hc; subst hc; rfl)
  | box _ _ => have e : v = _ := r; subst e; intro c hc; simp [Value.cells] at hc; subst hc; rfl
  | ref _ => obtain ⟨_, _, rfl, _⟩ := r; intro c hc; simp [Value.cells] at hc; subst hc; rfl
  | fn _ _ _ => obtain ⟨_, _, rfl, _⟩ := r; intro c hc; simp [Value.cells] at hc; subst hc; rfl
  | iface _ _ => obtain ⟨_, rfl, _⟩ := r; intro c hc; simp [Value.cells] at hc; subst hc; rfl
theorem run_store_row {tq : Nat} {ti : TI} (ht : TIok P tq ti) {g off : Nat} {ws : Array Value} {wt : TypeId} {v : Value} (hg : w.heap[g]? = some (.cells ws wt (0, 0))) (hsz : v.cells.size = ti.n) (h1 : ∀ c ∈ v.cells.toList, c.oneCell' = true) (hle : off + v.cells.size ≤ ws.size) :
    (Instr.storeAt tq (.pointer (some ⟨g, off, none⟩)) v).run P w = .ok () (w.setRow g (putVs ws.toList off v.cells.toList).toArray) := by
  obtain ⟨i, z, hi, hs, _⟩ := ht.info
  have hst := run_storeCells_at P g off wt v.cells.toList 0 ws w hg (by simpa using hle) h1
  rw [Nat.add_zero] at hst
  rw [putVs_eq _ _ _ (by simpa using hle)]
  simp [Instr.storeAt, Instr.sureAddr, storeVar, sizeOf, typeInfo, hi, hs, hsz, hst, pure, Sem.run]
theorem pw_put : ∀ (l : List Value) (off : Nat) (m : List Value), pw (putVs l off m) = true → pw l = true ∨ ∃ v m', off = 0 ∧ m = v :: m' ∧ pw [v] = true
  | l, off, [], h => by
    have : putVs l off [] = l := by cases l <;> cases off <;> rfl
    rw [this] at h; exact .inl h
  | [], off, y :: m, h => by
    have : putVs [] off (y :: m) = [] := by cases off <;> rfl
    rw [this] at h; exact .inl h
  | c :: l, 0, y :: m, h => .inr ⟨y, m, rfl, rfl, by
    have h : pw (y :: putVs l 0 m) = true := h
    cases y <;> first | rfl | cases h⟩
  | c :: l, off + 1, y :: m, h => .inl (by
    have h : pw (c :: putVs l off (y :: m)) = true := h
    cases c <;> first | rfl | cases h)
theorem stOk_pw {x : Aux} {cs xs : List V} {off : Nat} {ws : Array Value} {m : List Value} (h : stOk cs off xs = true) (hr : RepVs x cs ws.toList) (hx : RepVs x xs m) : pw (putVs ws.toList off m).toArray.toList = true → pw ws.toList = true ∨ knAny ws.size = true := fun hp => by
  have hl : ws.size = cs.length := by rw [← Array.length_toList]; exact hr.length
  rw [hl]
  cases hk : knAny cs.length with
  | true => exact .inr rfl
  | false =>
    refine .inl ?_
    rcases pw_put _ _ _ hp with h1 | ⟨v, m', rfl, rfl, hv⟩
    · exact h1
    · unfold stOk at h
      rw [hk] at h
      cases xs with
      | nil => cases (show (v :: m') = [] from hx)
      | cons u us =>
        obtain ⟨v2, l2, e, h1, h2⟩ := hx
        cases e
        cases hu : hdNP u with
        | true => rw [np_rep hu h1 []] at hv; cases hv
        | false =>
          simp only [hu] at h
          cases cs with
          | nil =>
            have e : ws.toList = [] := hr
            rw [e] at hp; cases hp
          | cons c r =>
            obtain ⟨v3, l3, e3, h3, h4⟩ := hr
            rw [e3]; exact p_rep h h3 l3
/-- cells of a box written -/
theorem EffOK.store (S : Sim I B0 M nt x t b a w) (hI : Stable I B0) {i : Nat} {cs : List V} {ws : Array Value} {wt : TypeId} (hb : getB b i = some cs) (hg : w.heap[x.ρ i]? = some (.cells ws wt (0, 0))) {x' : Aux} {scr : List Tok} {cs' : List V} {ws' : Array Value}
    (f : Tok → Tok) (hh : x'.h = x.h) (hρ : x'.ρ = x.ρ) (hxu : x'.u = x.u) (hz : ∀ t, t ∉ scr → x'.z t = x.z t) (hf : ∀ t p, x'.z t = some p → x.z (f t) = some p) (hfi : ∀ t t', x'.z t ≠ none → x'.z t' ≠ none → f t = f t' → t = t')
    (hsz : ws'.size = ws.size) (hr : RepVs x' cs' ws'.toList) (hpw : pw ws'.toList = true → pw ws.toList = true ∨ knAny ws.size = true) : EffOK I B0 M x b { wr := [(i, cs')], scr := scr } w undef x' (w.setRow (x.ρ i) ws') := by
  have hblk : (w.setRow (x.ρ i) ws').heap[x.ρ i]? = some (.cells ws' wt (0, 0)) := setRow_heap w (x.ρ i) ws _ wt _ hg
  have hoth : ∀ k, k ≠ x.ρ i → (w.setRow (x.ρ i) ws').heap[k]? = w.heap[k]? := fun k hk => setRow_other w (x.ρ i) k _ (fun e => hk (by first | exact e | exact e.symm))
  have hsize : (w.setRow (x.ρ i) ws').heap.size = w.heap.size := by simp [World.setRow]
  obtain ⟨hm, hn, _⟩ := S.ws.box i cs hb
  have hwr : ∀ j, getB [(i, cs')] j = if i = j then some cs' else none := fun j => by
    simp only [getB]
    by_cases h : i = j
    · subst h; simp
    · have : Nat.beq i j = false := by rw [← Bool.not_eq_true]; exact fun e => h (Nat.eq_of_beq_eq_true e)
      rw [this, if_neg h]
  have hsome : ∀ j, (getB [(i, cs')] j ≠ none ∨ getB b j ≠ none) → ∃ c, getB b j = some c := fun j hj => by
    cases h4 : getB b j with
    | some c => exact ⟨c, rfl⟩
    | none =>
      rcases hj with hj | hj
      · rw [hwr] at hj
        by_cases e : i = j
        · subst e; rw [hb] at h4; cases h4
        · rw [if_neg e] at hj; exact absurd rfl hj
      · exact absurd h4 hj
  refine ⟨fun k o v h => by rw [hh]; exact h, fun _ _ => by rw [hρ], hz, fun b1 hb1 => ?_, ?_, trivial, fun k hk => by rw [hxu]; exact hk⟩
  · refine S.ws.step hI hb1 (fun k o v h => by rw [hh]; exact h) (fun _ _ => by rw [hρ]) hz (by rw [hsize]; exact Nat.le_refl _) (fun k hk => hoth k (fun e => hk (e ▸ hm))) (fun k o v hv => ?_) (fun j c0 hnn hc => ?_) (fun j c0 hj => ?_) (fun j j' hj hj' hjj => ?_) (fun t' k s e hzz => ?_) (fun t' t'' k s e s' e' h1 h2 => ?_) (fun t' k s e j hzz hj => ?_) (fun k hk => ?_) (fun k hk => by rw [hxu]; exact hk) (fun j c0 hj ws2 t2 f2 hh2 => ?_)
    rotate_left 7
    · rw [hxu] at hk
      obtain ⟨ws2, f2, h2⟩ := S.ws.uu k hk
      by_cases e : k = x.ρ i
      · rw [e, hg] at h2
        cases h2
        exact ⟨ws', _, by rw [e]; exact hblk⟩
      · exact ⟨ws2, f2, by rw [hoth k e]; exact h2⟩
    · rw [hwr] at hj
      by_cases e : i = j
      · subst e
        rw [hρ, hblk] at hh2
        cases hh2
        intro hp
        rw [hsz]
        rcases hpw hp with h | h
        · exact S.ws.kt i cs hb _ _ _ hg h
        · exact knAny_kn h _
      · rw [if_neg e] at hj; cases hj
    · rw [hh] at hv
      have hk : k ≠ x.ρ i := fun e => by rw [e, hn] at hv; cases hv
      rw [cell_of_block (w := w) (hoth k hk)]
      exact S.ws.agree k o v hv
    · rw [hwr] at hnn
      have hne : ¬ i = j := fun e => by rw [if_pos e] at hnn; cases hnn
      refine ⟨by simp, hoth _ (fun e => hne (S.ws.inj j i c0 cs hc hb e).symm), fun o => ?_⟩
      rw [hh]; exact (S.ws.box j c0 hc).2.1 o
    · rw [hwr] at hj
      by_cases e : i = j
      · subst e
        rw [if_pos rfl] at hj
        cases hj
        rw [hρ, hh]
        exact ⟨hm, hn, ws', wt, hblk, hr⟩
      · rw [if_neg e] at hj; cases hj
    · obtain ⟨c1, h1⟩ := hsome j hj
      obtain ⟨c2, h2⟩ := hsome j' hj'
      rw [hρ] at hjj
      exact S.ws.inj j j' c1 c2 h1 h2 hjj
    · have h0 := hf _ _ hzz
      obtain ⟨g1, g2, g3, wz, tz, g4, g5⟩ := S.ws.zone _ k s e h0
      refine ⟨g1, g2, fun o ho => by rw [hh]; exact g3 o ho, wz, tz, ?_, g5⟩
      rw [hoth k (fun e => S.ws.zbox _ k s _ i cs h0 hb e.symm)]
      exact g4
    · exact hfi t' t'' (by rw [h1]; simp) (by rw [h2]; simp) (S.ws.zinj _ _ k s e s' e' (hf _ _ h1) (hf _ _ h2))
    · obtain ⟨c1, h1⟩ := hsome j hj
      rw [hρ]
      exact S.ws.zbox _ k s e j c1 (hf _ _ hzz) h1
  · exact ⟨rfl, rfl, rfl, by rw [hsize]; exact Nat.le_refl _, fun k hk => hoth k (fun e => hk (e ▸ hm)), fun k o v h => by rw [hh]; exact h, fun k _ => by rw [hh], fun _ _ => by rw [hρ], fun k hk => by rw [hxu]; exact hk⟩
theorem op_store (htt : TTok P tt) (hI : Stable I B0) (S : Sim I B0 M nt x t b a w) (tq : TypeId) (y z : Operand) (h : DenN P tt X n Res (opEff tt ⟨dst, .store tq y z, ty, pos, after, guard⟩ (St.ev ⟨t, b⟩) (getB b)) r) : OpOK I B0 M P ⟨dst, .store tq y z, ty, pos, after, guard⟩ a x b w r := by
  have hy := S.ev y
  have hz := S.ev z
  simp only [opEff] at h
  split at h
  · rename_i ti i off e1 e2
    rw [e2] at hy
    have hp : a.eval y = .pointer (some ⟨x.ρ i, off, none⟩) := hy
    split at h
    · rename_i cs us e3 e4
      obtain ⟨hm, hn, ws, wt, hg, hrw⟩ := S.ws.box i cs e3
      have hru := (cellsOf_rep e4 hz).1
      have hsz := cells_size (htt _ _ e1) e4 hz
      have hone := cellsOf_one e4 hz
      have hlen : ws.size = cs.length := by rw [← Array.length_toList]; exact hrw.length
      have hul : (a.eval z).cells.size = us.length := by rw [← Array.length_toList]; exact hru.length
      have run : off + us.length ≤ cs.length → (execOp a.eval ⟨dst, .store tq y z, ty, pos, after, guard⟩).run P w = .ok .skip (w.setRow (x.ρ i) (putVs ws.toList off (a.eval z).cells.toList).toArray) := fun hle => by
        have := run_store_row (P := P) (htt _ _ e1) hg hsz hone (by rw [hul, hlen]; exact hle)
        simp only [execOp, hp]
        rw [Sem.run_bind, this]; rfl
      have hpl : ∀ m : List Value, off + m.length ≤ ws.toList.length → (putVs ws.toList off m).toArray.size = ws.size := fun m hm => by
        rw [putVs_eq _ _ _ hm]; simp at hm ⊢; omega
      split at h
      · rename_i k q es hle
        have hle := Nat.le_of_ble_eq_true hle
        obtain rfl := den_leaf h
        refine ⟨fun _ => ?_, fun u hu => by cases hu⟩
        let z' : Tok → Option (Nat × Nat × Nat) := fun t' => if t' = (i, off) then x.z k else if t' = k then none else x.z t'
        let x' : Aux := { x with z := z' }
        refine ⟨undef, x', _, .inr ⟨run hle, rfl⟩, EffOK.store S hI e3 hg (x' := x') (fun t' => if t' = (i, off) then k else t') rfl rfl rfl (fun t' ht' => ?_) (fun t' p hp' => ?_) (fun t' t'' h1 h2 h3 => ?_) (hpl _ (by simp only [Array.length_toList]; rw [hul, hlen]; exact hle)) ?_ ?_⟩
        · simp only [List.mem_cons, List.not_mem_nil, or_false, not_or] at ht'
          show z' t' = x.z t'
          simp [z', ht'.1, ht'.2]
        · show x.z (if t' = (i, off) then k else t') = some p
          have hp'' : z' t' = some p := hp'
          by_cases e : t' = (i, off)
          · simpa [z', e] using hp''
          · rw [if_neg e]
            simp only [z', if_neg e] at hp''
            split at hp''
            · cases hp''
            · exact hp''
        · have h1' : z' t' ≠ none := h1
          have h2' : z' t'' ≠ none := h2
          by_cases ea : t' = (i, off) <;> by_cases eb : t'' = (i, off)
          · rw [ea, eb]
          · rw [if_pos ea, if_neg eb] at h3
            exact absurd (by simp only [z', if_neg eb, if_pos h3.symm]) h2'
          · rw [if_neg ea, if_pos eb] at h3
            exact absurd (by simp only [z', if_neg ea, if_pos h3]) h1'
          · rw [if_neg ea, if_neg eb] at h3; exact h3
        · have hcl : RepVs x' (cleanVs [k, (i, off)] [] cs) ws.toList := RepVs.clean (x := x) (x' := x') (scr := [k, (i, off)]) (drp := []) (fun _ _ _ h => h) (fun _ _ => rfl) (fun t' ht' => by
            simp only [List.mem_cons, List.not_mem_nil, or_false, not_or] at ht'
            show z' t' = x.z t'
            simp [z', ht'.1, ht'.2]) (fun _ h => h) hrw
          refine setAt_rep hcl ?_
          obtain ⟨v0, l0, hv0, hr0, hnil⟩ := hru
          refine ⟨v0, l0, hv0, ?_, hnil⟩
          show RepOwn x' (i, off) q es v0
          rcases (show RepOwn x k q es v0 from hr0) with ⟨g1, g2, g3⟩ | ⟨bk, cap, g1, g2, g3⟩
          · exact .inl ⟨g1, g2, by show z' (i, off) = none; simp [z', g3]⟩
          · exact .inr ⟨bk, cap, g1, by show z' (i, off) = _; simp [z', g2], g3⟩
        · obtain ⟨v0, l0, hv0, hr0, hnil⟩ := hru
          intro hp
          rcases pw_put _ _ _ hp with h1 | ⟨v, m', _, e, hv⟩
          · exact .inl h1
          · rw [hv0] at e; cases e
            rw [np_rep (u := .own k q es) rfl hr0 []] at hv; cases hv
      · rename_i hle
        have hle := Nat.le_of_ble_eq_true hle
        split at h
        rotate_left
        · exact (den_fail h).elim
        rename_i hst
        obtain rfl := den_leaf h
        refine ⟨fun _ => ⟨undef, x, _, .inr ⟨run hle, rfl⟩, EffOK.store S hI e3 hg (x' := x) id rfl rfl rfl (fun _ _ => rfl) (fun _ _ h => h) (fun _ _ _ _ h => h) (hpl _ (by simp only [Array.length_toList]; rw [hul, hlen]; exact hle)) (setAt_rep hrw hru) (stOk_pw hst hrw hru)⟩, fun u hu => by cases hu⟩
      · exact (den_fail h).elim
    · exact (den_fail h).elim
  · exact (den_fail h).elim
end
end Go.Proofs.YtaddhpeainliiaaGreatDoor.Id
/-! ## IdealJ -/
namespace Go.Proofs.YtaddhpeainliiaaGreatDoor.Id
open Go
set_option linter.unusedSectionVars false
set_option linter.unusedVariables false
set_option linter.unusedSimpArgs false
section
variable {I : World → Prop} {B0 : Nat} {M : Nat → Prop} {P : Program} {tt : TT} {X : Given} {n nt : Nat} {x : Aux} {t : Tmps} {b : Boxes} {a : Act} {w : World}
variable [Ds]
variable {dst : Option Tmp} {ty : TypeId} {pos : String} {after : Array Edge} {guard : Option (Nat × Bool)} {r : Res}
theorem flat_get {α : Type} {m : Nat} : ∀ {es : List (List α)} {j i : Nat} {e : List α} {y : α}, (∀ e ∈ es, e.length = m) → es[j]? = some e → e[i]? = some y → es.flatten[j * m + i]? = some y
  | [], j, i, e, y, _, h, _ => by cases h
  | e0 :: es, 0, i, e, y, hl, h, hi => by
    simp only [List.getElem?_cons_zero, Option.some.injEq] at h
    subst h
    rw [List.flatten_cons, Nat.zero_mul, Nat.zero_add, List.getElem?_append_left (List.getElem?_eq_some_iff.1 hi).1]
    exact hi
  | e0 :: es, j + 1, i, e, y, hl, h, hi => by
    have h0 : e0.length = m := hl e0 (by simp)
    rw [List.flatten_cons, List.getElem?_append_right (by rw [h0, Nat.add_mul]; omega), h0, show (j + 1) * m + i - m = j * m + i by rw [Nat.add_mul]; omega]
    exact flat_get (fun e he => hl e (by simp [he])) (by simpa using h) hi
theorem flat_len {α : Type} {m : Nat} : ∀ {es : List (List α)}, (∀ e ∈ es, e.length = m) → es.flatten.length = es.length * m
  | [], _ => by simp
  | e :: es, h => by
    rw [List.flatten_cons, List.length_append, h e (by simp), flat_len (fun e he => h e (by simp [he])), List.length_cons, Nat.add_mul]
    omega
theorem RepDs.take_append {h : H} : ∀ {ds : List D} {l : List Value}, RepDs h ds l → ∀ {es : List D} {m : List Value}, RepDs h es m → RepDs h (ds ++ es) (l ++ m)
  | [], l, r, es, m, q => by have : l = [] := r; subst this; exact q
  | y :: ds, l, r, es, m, q => by obtain ⟨v, l0, rfl, h1, h2⟩ := r; exact ⟨v, l0 ++ m, rfl, h1, h2.take_append q⟩
theorem hd8_nil : ¬ hd8 [] := fun ⟨_, _, h⟩ => by cases h
theorem okHd_spec {e n : Nat} {es ys : List (List D)} (h : okHd e n es ys = true) (hl : ∀ q ∈ es ++ ys, q.length = n) (h8 : hd8 (es ++ ys)) : e = u8t := by
  obtain ⟨c, r, hc⟩ := h8
  unfold okHd at h
  split at h
  · rename_i he; exact Nat.eq_of_beq_eq_true he
  · split at h
    · rename_i hn
      have := hl [.int .u8 c] (by rw [hc]; simp)
      have hn1 : n = 1 := this.symm
      subst hn1
      cases hn
    · split at h
      · have hc : ys = [.int .u8 c] :: r := hc
        rw [hc] at h; cases h
      · cases es with
        | nil => rename_i hne; exact absurd rfl hne
        | cons q es =>
          rw [List.cons_append] at hc
          injection hc with h1 h2
          rw [h1] at h; cases h
/-- a new row: its first cells are settled, what is behind may be a token's -/
theorem EffOK.newRow (S : Sim I B0 M nt x t b a w) (hI : Stable I B0) {w' : World} {o : Obj} (hheap : ∀ k, k < w.heap.size → w'.heap[k]? = w.heap[k]?) (hnew : w'.heap[w.heap.size]? = some o) (hsz : w.heap.size < w'.heap.size)
    (h1 : w'.os = w.os) (h2 : w'.tape = w.tape) (h3 : w'.output = w.output) (m : Nat) (es : List (List D)) (vs : List Value) (hl : ∀ e ∈ es, e.length = m) (hr : RepDs x.h es.flatten vs) (hc : ∀ (j : Nat) v, vs[j]? = some v → w'.cell? ⟨w.heap.size, j, none⟩ = some v)
    (cap : Nat) (hcap : es.length ≤ cap) (tok : Option Tok) (htok : tok ≠ none → ∃ ws ty, o = .cells ws ty (0, 0) ∧ ws.size = cap * m) (scr : List Tok) (hscr : ∀ k, tok = some k → k ∈ scr) (u : V) (hu : (u = .d (.sl m es)) ∨ ∃ k, tok = some k ∧ u = .own k m es) (hu8 : tok ≠ none → hd8 es → ∃ ws f, o = .cells ws u8t f) (hc0 : tok ≠ none → es = [] → cap = 0) :
    ∃ x', EffOK I B0 M x b { v := u, scr := scr } w (.slice (some ⟨w.heap.size, 0, none⟩) es.length cap) x' w' := by
  let g := w.heap.size
  let h' : H := fun k q => if k = w.heap.size then vs[q]? else x.h k q
  let z' : Tok → Option (Nat × Nat × Nat) := fun t' => if tok = some t' then some (w.heap.size, es.length * m, cap * m) else if t' ∈ scr then none else x.z t'
  have hsub : ∀ k q v, x.h k q = some v → h' k q = some v := fun k q v hv => by
    show (if k = w.heap.size then vs[q]? else x.h k q) = some v
    have hk : k ≠ w.heap.size := fun e => by subst e; rw [S.ws.h_none (Nat.le_refl _)] at hv; cases hv
    rw [if_neg hk]; exact hv
  have hvl : vs.length = es.length * m := by rw [hr.length, flat_len hl]
  have hrep : RepD h' (.slice (some ⟨w.heap.size, 0, none⟩) es.length cap) (.sl m es) := by
    refine .sl _ cap m es (fun j i => (vs[j * m + i]?).getD undef) (fun _ => rfl) hcap (fun j e he => hl e (List.mem_of_getElem? he)) (fun j e i y he hy => ?_) (fun j e i y he hy => ?_)
    · obtain ⟨v, g1, _⟩ := hr.get (flat_get hl he hy)
      show (if w.heap.size = w.heap.size then vs[0 + (j * m + i)]? else _) = _
      rw [if_pos rfl, Nat.zero_add, g1]; rfl
    · obtain ⟨v, g1, g2⟩ := hr.get (flat_get hl he hy)
      simp only [g1, Option.getD_some]
      exact g2.mono hsub
  let u' : Nat → Prop := fun k => x.u k ∨ (k = w.heap.size ∧ ∃ ws f, o = .cells ws u8t f)
  refine ⟨{ x with h := h', z := z', u := u' }, hsub, fun _ _ => rfl, fun t' ht' => ?_, fun b1 hb => ?_, ?_, ?_, fun _ h => .inl h⟩
  · show z' t' = x.z t'
    have : tok ≠ some t' := fun e => ht' (hscr t' e)
    simp [z', this, ht']
  · have hz : ∀ t' k s e, z' t' = some (k, s, e) → (tok = some t' ∧ k = w.heap.size ∧ s = es.length * m ∧ e = cap * m) ∨ (tok ≠ some t' ∧ x.z t' = some (k, s, e)) := fun t' k s e h => by
      simp only [z'] at h
      split at h
      · cases h; exact .inl ⟨by assumption, rfl, rfl, rfl⟩
      · split at h
        · cases h
        · exact .inr ⟨by assumption, h⟩
    refine S.ws.step (wr := []) (x' := { x with h := h', z := z', u := u' }) hI hb hsub (fun _ _ => rfl) (fun t' ht' => ?_) (by omega) (fun k hk => ?_) (fun k q v hv => ?_) (fun i c0 hn hc0 => ?_) (fun i c0 hn => by cases hn) (fun i j hi hj hij => ?_) (fun t' k s e hzz => ?_) (fun t' t'' k s e s' e' g1 g2 => ?_) (fun t' k s e i hzz hi => ?_) (fun k hk => ?_) (fun _ h => .inl h) (fun i c0 hn => by cases hn)
    rotate_left 8
    · rcases hk with hk | ⟨rfl, ws, f, ho⟩
      · obtain ⟨ws, f, h9⟩ := S.ws.uu k hk
        exact ⟨ws, f, by rw [hheap k (heap_lt h9)]; exact h9⟩
      · exact ⟨ws, f, by rw [hnew, ho]⟩
    · show z' t' = x.z t'
      have : tok ≠ some t' := fun e => ht' (hscr t' e)
      simp [z', this, ht']
    · rcases Nat.lt_or_ge k w.heap.size with g | g
      · exact hheap k g
      · exact absurd (S.ws.top k g) hk
    · have hv' : (if k = w.heap.size then vs[q]? else x.h k q) = some v := hv
      split at hv'
      · rename_i e; subst e; exact hc q v hv'
      · have hcc := S.ws.agree k q v hv'
        rw [cell_of_block (w := w) (hheap k (cell_lt hcc))]; exact hcc
    · refine ⟨by simp, hheap _ (S.ws.lt hc0), fun q => ?_⟩
      show (if x.ρ i = w.heap.size then vs[q]? else x.h (x.ρ i) q) = none
      rw [if_neg (by have := S.ws.lt hc0; omega)]
      exact (S.ws.box i c0 hc0).2.1 q
    · have hi' := hi.resolve_left (by simp [getB])
      have hj' := hj.resolve_left (by simp [getB])
      cases h4 : getB b i with
      | none => exact absurd h4 hi'
      | some c1 =>
        cases h5 : getB b j with
        | none => exact absurd h5 hj'
        | some c2 => exact S.ws.inj i j c1 c2 h4 h5 hij
    · rcases hz _ _ _ _ hzz with ⟨g1, rfl, rfl, rfl⟩ | ⟨g1, g2⟩
      · obtain ⟨ws, ty', ho, hws⟩ := htok (by rw [g1]; simp)
        refine ⟨S.ws.top _ (Nat.le_refl _), Nat.mul_le_mul_right _ hcap, fun q hq => ?_, ws, ty', by rw [hnew, ho], hws⟩
        show (if w.heap.size = w.heap.size then vs[q]? else _) = none
        rw [if_pos rfl]
        exact List.getElem?_eq_none (by omega)
      · obtain ⟨q1, q2, q3, ws, ty', q4, q5⟩ := S.ws.zone _ k s e g2
        have hk := S.ws.zlt g2
        refine ⟨q1, q2, fun q hq => ?_, ws, ty', by rw [hheap k hk]; exact q4, q5⟩
        show (if k = w.heap.size then vs[q]? else x.h k q) = none
        rw [if_neg (by omega)]; exact q3 q hq
    · rcases hz _ _ _ _ g1 with ⟨e1, e2, _⟩ | ⟨e1, e2⟩ <;> rcases hz _ _ _ _ g2 with ⟨e3, e4, _⟩ | ⟨e3, e4⟩
      · rw [e1] at e3; exact Option.some.inj e3
      · have := S.ws.zlt e4; omega
      · have := S.ws.zlt e2; omega
      · exact S.ws.zinj _ _ k s e s' e' e2 e4
    · have hi' := hi.resolve_left (by simp [getB])
      cases h4 : getB b i with
      | none => exact absurd h4 hi'
      | some c1 =>
        rcases hz _ _ _ _ hzz with ⟨_, rfl, _⟩ | ⟨_, g2⟩
        · have := S.ws.lt h4; show x.ρ i ≠ _; omega
        · exact S.ws.zbox _ k s e i c1 g2 h4
  · refine ⟨h1, h2, h3, by omega, fun k hk => ?_, hsub, fun k hk => ?_, fun _ _ => rfl, fun _ h => .inl h⟩
    · rcases Nat.lt_or_ge k w.heap.size with g | g
      · exact hheap k g
      · exact absurd (S.ws.top k g) hk
    · funext q
      show (if k = w.heap.size then vs[q]? else x.h k q) = x.h k q
      rw [if_neg (fun e => hk (S.ws.top k (by omega)))]
  · rcases hu with rfl | ⟨k, hk, rfl⟩
    · exact hrep
    · refine .inr ⟨w.heap.size, cap, rfl, ?_, hrep, fun h8 => .inr ⟨rfl, hu8 (by rw [hk]; simp) h8⟩, hc0 (by rw [hk]; simp)⟩
      show z' k = _
      simp [z', hk]
/-! ### literals -/
theorem setEs_length : ∀ (es : List (List D)) (i : Nat) (e : List D), (setEs es i e).length = es.length
  | [], i, e => rfl
  | c :: cs, 0, e => rfl
  | c :: cs, i + 1, e => by simp [setEs, setEs_length cs i e]
theorem setEs_len {m : Nat} {e : List D} (he : e.length = m) : ∀ (es : List (List D)) (i : Nat), (∀ q ∈ es, q.length = m) → ∀ q ∈ setEs es i e, q.length = m
  | [], i, h => h
  | c :: cs, 0, h => fun q hq => by
    cases hq with
    | head => exact he
    | tail _ hq => exact h q (List.mem_cons_of_mem _ hq)
  | c :: cs, i + 1, h => fun q hq => by
    cases hq with
    | head => exact h c (by simp)
    | tail _ hq => exact setEs_len he cs i (fun q hq => h q (by simp [hq])) q hq
theorem setDs_app : ∀ (a b : List D) (i : Nat) (e : List D), setDs (a ++ b) (a.length + i) e = a ++ setDs b i e
  | [], b, i, e => by simp
  | y :: a, b, i, [] => by
    have : ∀ (l : List D) (i : Nat), setDs l i [] = l := fun l i => by cases l <;> cases i <;> rfl
    rw [this, this]
  | y :: a, b, i, z :: e => by
    rw [List.cons_append, show (y :: a).length + i = (a.length + i) + 1 by simp; omega]
    show y :: setDs (a ++ b) (a.length + i) (z :: e) = _
    rw [setDs_app a b i (z :: e)]; rfl
theorem setDs_head : ∀ (a b e : List D), e.length = a.length → setDs (a ++ b) 0 e = e ++ b
  | [], b, [], _ => by cases b <;> rfl
  | [], b, _ :: _, h => by simp at h
  | y :: a, b, [], h => by simp at h
  | y :: a, b, z :: e, h => by
    show z :: setDs (a ++ b) 0 e = _
    rw [setDs_head a b e (by simpa using h)]; rfl
theorem setEs_flat {m : Nat} {e : List D} (he : e.length = m) : ∀ (es : List (List D)) (i : Nat), (∀ q ∈ es, q.length = m) → i < es.length → (setEs es i e).flatten = setDs es.flatten (i * m) e
  | [], i, h, hi => by simp at hi
  | c :: cs, 0, h, hi => by
    rw [Nat.zero_mul, List.flatten_cons, setDs_head c _ e (by rw [he, h c (by simp)])]
    rfl
  | c :: cs, i + 1, h, hi => by
    have hc : c.length = m := h c (by simp)
    show c ++ (setEs cs i e).flatten = _
    rw [setEs_flat he cs i (fun q hq => h q (by simp [hq])) (by simp at hi; omega), List.flatten_cons, show (i + 1) * m = c.length + i * m by rw [hc, Nat.add_mul]; omega, setDs_app]
theorem norm_length (l : List D) : (l.map D.norm).length = l.length := by simp
theorem fillS_rep (htt : TTok P tt) (S : Sim I B0 M nt x t b a w) {te : TI} {et : Nat} {m : Nat} (hte : TIok P et te) (hm : te.n = m) :
    ∀ (ps : List (Nat × Operand)) (es es' : List (List D)) (cs : Array Value), fillS tt te m (ps.map fun p => (p.1, St.ev ⟨t, b⟩ p.2)) es = some es' → (∀ q ∈ es, q.length = m) → RepDs x.h es.flatten cs.toList →
      ∃ cs', Instr.fill (fun i => some (i * m, m)) cs (ps.map fun p => (p.1, a.eval p.2)) = some cs' ∧ RepDs x.h es'.flatten cs'.toList ∧ (∀ q ∈ es', q.length = m) ∧ es'.length = es.length
  | [], es, es', cs, h, hl, r => by cases h; exact ⟨cs, rfl, r, hl, rfl⟩
  | (i, y) :: ps, es, es', cs, h, hl, r => by
    simp only [List.map_cons, fillS] at h
    cases h3 : cellsOf te (St.ev ⟨t, b⟩ y) with
    | none => rw [h3] at h; cases h
    | some us =>
      rw [h3] at h
      simp only at h
      cases h4 : toDs us with
      | none => rw [h4] at h; cases h
      | some xs =>
        rw [h4] at h
        simp only at h
        split at h
        · rename_i g1 g2
          have g1 := Nat.eq_of_beq_eq_true g1
          have g2 : i < es.length := by simpa [Nat.blt_eq] using g2
          have hsz := cells_size hte h3 (S.ev y)
          have hrx := (toDs_rep h4 (cellsOf_rep h3 (S.ev y)).1).norm
          have hlen : cs.size = es.length * m := by rw [← Array.length_toList, r.length, flat_len hl]
          have hxl : (a.eval y).cells.toList.length = m := by rw [hrx.length, norm_length, g1]
          have hfit : i * m + m ≤ es.length * m := by
            have : (i + 1) * m ≤ es.length * m := Nat.mul_le_mul_right _ g2
            rw [Nat.add_mul] at this; omega
          have hfold := fold_put (a.eval y).cells.toList (i * m) 0 cs (by rw [hxl, hlen]; omega)
          have hel : (xs.map D.norm).length = m := by rw [norm_length, g1]
          obtain ⟨cs', k1, k2, k3, k4⟩ := fillS_rep htt S hte hm ps (setEs es i (xs.map D.norm)) es' (((a.eval y).cells.toList.zipIdx 0).foldl (fun cs (p : Value × Nat) => cs.setIfInBounds (i * m + p.2) p.1) cs) h (setEs_len hel es i hl) (by
            rw [hfold, setEs_flat hel es i hl g2]; exact setDs_rep r hrx)
          refine ⟨cs', ?_, k2, k3, by rw [k4, setEs_length]⟩
          have hcsz : (a.eval y).cells.size = m := by rw [← Array.length_toList]; exact hxl
          simp only [List.map_cons, Instr.fill]
          rw [if_neg (by simp only [hcsz, ne_eq, not_true_eq_false, decide_false, Bool.false_or, decide_eq_true_eq, Bool.or_eq_true, Nat.not_lt]; omega)]
          rw [← k1, ← Array.foldl_toList]
          simp
        · cases h
theorem zero_rows (l : List Value) (hl : 0 < l.length) : ∀ k : Nat, (List.range (k * l.length)).map (fun i => l[i % l.length]!) = (List.replicate k l).flatten
  | 0 => by simp
  | k + 1 => by
    rw [Nat.add_mul, Nat.one_mul, List.range_add, List.map_append, zero_rows l hl k, List.replicate_succ', List.flatten_append]
    congr 1
    simp only [List.flatten_cons, List.flatten_nil, List.append_nil, List.map_map]
    apply List.ext_getElem
    · simp
    · intro i h1 h2
      simp only [List.getElem_map, List.getElem_range, Function.comp_apply]
      rw [Nat.mul_comm k, Nat.mul_add_mod, Nat.mod_eq_of_lt h2]
      simp [h2]
theorem rep_zero {h : H} {zs : List D} {l : List Value} (r : RepDs h zs l) : ∀ k : Nat, RepDs h (List.replicate k zs).flatten (List.replicate k l).flatten
  | 0 => by simp [RepDs]
  | k + 1 => by rw [List.replicate_succ, List.replicate_succ, List.flatten_cons, List.flatten_cons]; exact r.take_append (rep_zero r k)
theorem op_buildSlice (htt : TTok P tt) (hI : Stable I B0) (S : Sim I B0 M nt x t b a w) (tq : TypeId) (len : Nat) (ps : Array (Nat × Operand)) (h : DenN P tt X n Res (opEff tt ⟨dst, .buildSlice tq len ps, ty, pos, after, guard⟩ (St.ev ⟨t, b⟩) (getB b)) r) : OpOK I B0 M P ⟨dst, .buildSlice tq len ps, ty, pos, after, guard⟩ a x b w r := by
  simp only [opEff] at h
  split at h
  · rename_i d e m by0 n1 zero cmp e1
    obtain ⟨hu, _, ⟨ie, z, hie, hsz, hby, hz, hzs, hm0, hb0⟩, _⟩ := (htt _ _ e1).kind
    split at h
    · rename_i te e2
      obtain ⟨ie', z', hie', hsz', hz', hzr⟩ := (htt _ _ e2).info
      rw [hie] at hie'
      cases hie'
      rw [hz] at hz'
      cases hz'
      split at h
      · rename_i zs e3
        split at h
        · rename_i es g1 g2
          have g1 := Nat.le_of_ble_eq_true g1
          split at h
          rotate_left
          · exact (den_fail h).elim
          rename_i hok
          obtain rfl := den_leaf h
          have hrz := toDs_rep e3 (hzr x)
          have hzl : zs.length = m := by rw [← hrz.length]; simpa using hzs
          have hinit : ((Array.range (len * ie.size)).map (z.cells[· % z.cells.size]!)).toList = (List.replicate len z.cells.toList).flatten := by
            have := zero_rows z.cells.toList (by simp [hzs]; exact hm0) len
            rw [← this]
            simp only [Array.toList_map, Array.toList_range, Array.length_toList, hzs, hsz]
            apply List.map_congr_left
            intro i hi
            have hlt : i % m < z.cells.size := by rw [hzs]; exact Nat.mod_lt _ hm0
            simp [hlt]
          obtain ⟨cs', k1, k2, k3, k4⟩ := fillS_rep htt S (htt _ _ e2) (by rw [← hsz', hsz]) ps.toList (List.replicate len zs) es ((Array.range (len * ie.size)).map (z.cells[· % z.cells.size]!)) g2 (fun q hq => by rw [(List.mem_replicate.1 hq).2]; exact hzl) (by rw [hinit]; exact rep_zero hrz len)
          have hel : es.length = len := by rw [k4]; simp
          refine ⟨fun _ => ?_, fun u hu => by cases hu⟩
          have hcs : cs'.toList.length = len * m := by rw [k2.length, flat_len k3, hel]
          by_cases hpos : len * ie.size = 0
          · have hlen0 : len = 0 := by
              rcases Nat.mul_eq_zero.1 hpos with h | h
              · exact h
              · omega
            subst hlen0
            have hes : es = [] := List.eq_nil_of_length_eq_zero hel
            subst hes
            have hcs0 : cs' = #[] := by
              have : cs'.toList = [] := List.eq_nil_of_length_eq_zero (by rw [hcs]; simp)
              exact Array.toList_eq_nil_iff.1 this
            subst hcs0
            obtain ⟨x', hx⟩ := EffOK.newRow S hI (w' := w.alloc (.cells #[] e)) (o := .cells #[] e) (fun k hk => push_lt hk) push_eq (by simp) rfl rfl rfl m [] [] (by simp) rfl (by simp) 0 (Nat.le_refl _) (some (d, here)) (fun _ => ⟨#[], e, rfl, by simp⟩) [(d, here)] (fun k hk => by cases hk; simp) (.own (d, here) m []) (.inr ⟨_, rfl, rfl⟩) (fun _ h => absurd h hd8_nil) (fun _ _ => rfl)
            refine ⟨_, x', _, .inl ?_, hx⟩
            have hf : Instr.fill (fun i => some (i * ie.size, ie.size)) #[] (ps.toList.map fun p => (p.1, a.eval p.2)) = some #[] := by
              rw [hsz]
              have : ((Array.range (0 * ie.size)).map (z.cells[· % z.cells.size]!)) = #[] := by simp
              rw [this] at k1; exact k1
            have : (Instr.buildSlice tq 0 (ps.map fun (i, y) => (i, a.eval y))).run P w = .ok (.slice (some ⟨w.heap.size, 0, none⟩) 0 0) (w.alloc (.cells #[] e)) := by
              have hr0 : Array.range 0 = #[] := by simp
              simp [Instr.buildSlice, run_underlying hu, sizeOf, typeInfo, hie, newRow, hf, hr0]
            simp only [execOp]
            rw [Sem.run_bind, this]; rfl
          · obtain ⟨x', hx⟩ := EffOK.newRow S hI (w' := w.alloc (.cells cs' e)) (o := .cells cs' e) (fun k hk => push_lt hk) push_eq (by simp) rfl rfl rfl m es cs'.toList k3 k2 (fun j v hv => by
              have h1 : (w.alloc (.cells cs' e)).heap[w.heap.size]? = some (.cells cs' e (0, 0)) := push_eq
              rw [Array.getElem?_toList] at hv
              simp only [World.cell?, h1]
              simpa using hv) len (by omega) (some (d, here)) (fun _ => ⟨cs', e, rfl, by rw [← Array.length_toList]; exact hcs⟩) [(d, here)] (fun k hk => by cases hk; simp) (.own (d, here) m es) (.inr ⟨_, rfl, rfl⟩) (fun _ h8 => ⟨cs', (0, 0), by rw [okHd_spec hok (by simpa using k3) (by simpa using h8)]⟩) (fun _ he => by rw [← hel, he]; rfl)
            rw [hel] at hx
            refine ⟨_, x', _, .inl ?_, hx⟩
            have := run_buildSlice (P := P) w tq e len (ps.map fun (i, y) => (i, a.eval y)) cs' ie z hu hie hz (by rw [hsz]; omega) hpos (by rw [hsz] at k1 ⊢; rw [Array.toList_map]; exact k1)
            simp only [execOp]
            rw [Sem.run_bind, this]; rfl
        · exact (den_fail h).elim
      · exact (den_fail h).elim
    · exact (den_fail h).elim
  · exact (den_fail h).elim
end
end Go.Proofs.YtaddhpeainliiaaGreatDoor.Id
/-! ## IdealK -/
namespace Go.Proofs.YtaddhpeainliiaaGreatDoor.Id
open Go
set_option linter.unusedSectionVars false
set_option linter.unusedVariables false
set_option linter.unusedSimpArgs false
section
variable {I : World → Prop} {B0 : Nat} {M : Nat → Prop} {P : Program} {tt : TT} {X : Given} {n nt : Nat} {x : Aux} {t : Tmps} {b : Boxes} {a : Act} {w : World}
variable [Ds]
variable {dst : Option Tmp} {ty : TypeId} {pos : String} {after : Array Edge} {guard : Option (Nat × Bool)} {r : Res}
/-- no row of so many zeros is meant -/
def plainTy (P : Program) (u : TypeId) : Prop := P.underlying u = some .string ∨ ∃ e, P.underlying u = some (.slice e)
theorem run_append_stay (tq u tr e : TypeId) (i : TypeInfo) (ht : P.underlying tq = some (.slice e)) (hu : plainTy P u) (hi : P.info? e = some i) (g sLen sCap m : Nat) (cur : Array Value) (et : TypeId) (hg : w.heap[g]? = some (.cells cur et (0, 0)))
    (y : Value) (news : List Value) (hlen : (Builtin.lenOf y).run P w = .ok m w) (hfc : (Builtin.firstCells i.size m y).run P w = .ok news.toArray w) (h1 : ∀ u ∈ news, u.oneCell' = true) (hroom : sLen + m ≤ sCap) (hfit : sLen * i.size + news.length ≤ cur.size) :
    (Builtin.append_ #[tq, u] tr #[.slice (some ⟨g, 0, none⟩) sLen sCap, y]).run P w = .ok (.slice (some ⟨g, 0, none⟩) (sLen + m) sCap) (w.setRow g (putVs cur.toList (sLen * i.size) news).toArray) := by
  have hst := run_storeCells_at P g (sLen * i.size) et news 0 cur w hg (by simpa using hfit) h1
  simp only [Nat.add_zero] at hst
  rw [putVs_eq _ _ _ (by simpa using hfit)]
  rcases hu with hd | ⟨e', hd⟩
  all_goals simp [Builtin.append_, run_underlying ht, run_underlying hd, sizeOf, typeInfo, hi, hlen, hfc, hroom, Addr.add_lit, hst]
theorem run_append_none (tq u tr e : TypeId) (i : TypeInfo) (ht : P.underlying tq = some (.slice e)) (hu : plainTy P u) (hi : P.info? e = some i)
    (y : Value) (hlen : (Builtin.lenOf y).run P w = .ok 0 w) (hfc : (Builtin.firstCells i.size 0 y).run P w = .ok #[] w) :
    (Builtin.append_ #[tq, u] tr #[.slice none 0 0, y]).run P w = .ok (.slice none 0 0) w := by
  rcases hu with hd | ⟨e', hd⟩
  all_goals simp [Builtin.append_, run_underlying ht, run_underlying hd, sizeOf, typeInfo, hi, hlen, hfc]
theorem run_append_new (tq u tr e : TypeId) (i : TypeInfo) (z : Value) (ht : P.underlying tq = some (.slice e)) (hu : plainTy P u) (hi : P.info? e = some i) (hz : i.zero = some z) (s : Value) (ad : Option Addr) (sLen sCap m : Nat) (hs : s = .slice ad sLen sCap)
    (y : Value) (olds news : List Value) (hlen : (Builtin.lenOf y).run P w = .ok m w) (hfc : (Builtin.firstCells i.size m y).run P w.drew = .ok news.toArray w.drew) (hfo : (Builtin.firstCells i.size sLen s).run P w.drew = .ok olds.toArray w.drew)
    (hg : sCap < sLen + m) (h63 : ((sLen + m : Nat) : Int) ≤ 9223372036854775807) (hfit : Builtin.nextslicecap (sLen + m) sCap * i.bytes ≤ 281474976710656) :
    (Builtin.append_ #[tq, u] tr #[s, y]).run P w = .ok (.slice (some ⟨w.heap.size, 0, none⟩) (sLen + m) (grownCap w (sLen + m) sCap e))
      (w.drew.alloc (.cells (olds.toArray ++ news.toArray ++ Builtin.zeroCells z.cells (grownCap w (sLen + m) sCap e - (sLen + m))) e)) := by
  subst hs
  have hn : ¬ (sLen + m ≤ sCap) := by omega
  have h63' : ¬ (9223372036854775807 < ((sLen : Int) + (m : Int))) := by omega
  have h48' : ¬ (281474976710656 < Builtin.nextslicecap (sLen + m) sCap * i.bytes) := by omega
  rcases hu with hd | ⟨e', hd⟩
  all_goals
    simp [Builtin.append_, run_underlying ht, run_underlying hd, sizeOf, typeInfo, zeroValue, hi, hz, hlen, hn, h63', h48', Question.forced, hfc, hfo, newRow, grownCap]
    congr 2
    apply Array.ext'
    simp
/-- in place: the row's room shrinks -/
theorem EffOK.stay (S : Sim I B0 M nt x t b a w) (hI : Stable I B0) {k : Tok} {m : Nat} {es ys : List (List D)} {g cap : Nat} {cur : Array Value} {et : TypeId} {news : List Value}
    (hz : x.z k = some (g, es.length * m, cap * m)) (hg : w.heap[g]? = some (.cells cur et (0, 0))) (hcur : cur.size = cap * m) (hes : RepD x.h (.slice (some ⟨g, 0, none⟩) es.length cap) (.sl m es)) (hyl : ∀ e ∈ ys, e.length = m) (hr : RepDs x.h ys.flatten news)
    (hroom : es.length + ys.length ≤ cap) (hg8 : hd8 es → x.u g) (hc0 : es = [] → cap = 0) :
    ∃ x', EffOK I B0 M x b { v := .own k m (es ++ ys), scr := [k] } w (.slice (some ⟨g, 0, none⟩) (es.length + ys.length) cap) x' (w.setRow g (putVs cur.toList (es.length * m) news).toArray) := by
  have hnl : news.length = ys.length * m := by rw [hr.length, flat_len hyl]
  have hfit : es.length * m + news.length ≤ cur.toList.length := by
    have hcl : cur.toList.length = cap * m := by rw [Array.length_toList, hcur]
    rw [hnl, hcl, ← Nat.add_mul]; exact Nat.mul_le_mul_right _ hroom
  obtain ⟨hm, _, hn, _⟩ := S.ws.zone k g _ _ hz
  let ws' : Array Value := (putVs cur.toList (es.length * m) news).toArray
  have hblk : (w.setRow g ws').heap[g]? = some (.cells ws' et (0, 0)) := setRow_heap w g cur _ et _ hg
  have hoth : ∀ q, q ≠ g → (w.setRow g ws').heap[q]? = w.heap[q]? := fun q hq => setRow_other w g q _ (fun e => hq (by first | exact e | exact e.symm))
  have hsize : (w.setRow g ws').heap.size = w.heap.size := by simp [World.setRow]
  have hws : ws'.size = cur.size := by
    show (putVs cur.toList (es.length * m) news).toArray.size = _
    rw [putVs_eq _ _ _ hfit]; simp at hfit ⊢; omega
  let h' : H := fun q o => if q = g ∧ es.length * m ≤ o ∧ o < es.length * m + news.length then news[o - es.length * m]? else x.h q o
  let z' : Tok → Option (Nat × Nat × Nat) := fun t' => if t' = k then some (g, (es.length + ys.length) * m, cap * m) else x.z t'
  have hsub : ∀ q o v, x.h q o = some v → h' q o = some v := fun q o v hv => by
    show (if q = g ∧ es.length * m ≤ o ∧ o < es.length * m + news.length then news[o - es.length * m]? else x.h q o) = some v
    split
    · rename_i h; obtain ⟨rfl, h1, _⟩ := h; rw [hn o h1] at hv; cases hv
    · exact hv
  have hrep : RepD h' (.slice (some ⟨g, 0, none⟩) (es ++ ys).length cap) (.sl m (es ++ ys)) := by
    rcases hes.slice with ⟨h0, _⟩ | ⟨ad, cap', vs, e0, _, _, hn1, hh, hrr⟩
    · cases h0
    · cases e0
      refine .sl _ cap m (es ++ ys) (fun j i => if j < es.length then vs j i else (news[(j - es.length) * m + i]?).getD undef) (fun _ => rfl) (by simpa using hroom) (fun j e he => ?_) (fun j e i y he hy => ?_) (fun j e i y he hy => ?_)
      · rcases Nat.lt_or_ge j es.length with hj | hj
        · rw [List.getElem?_append_left hj] at he; exact hn1 j e he
        · rw [List.getElem?_append_right hj] at he; exact hyl e (List.mem_of_getElem? he)
      · rcases Nat.lt_or_ge j es.length with hj | hj
        · rw [List.getElem?_append_left hj] at he
          simp only [if_pos hj]
          exact hsub _ _ _ (hh j e i y he hy)
        · rw [List.getElem?_append_right hj] at he
          simp only [if_neg (Nat.not_lt.2 hj)]
          obtain ⟨v, g1, _⟩ := hr.get (flat_get hyl he hy)
          have hlt : (j - es.length) * m + i < news.length := (List.getElem?_eq_some_iff.1 g1).1
          have hjm : j * m = es.length * m + (j - es.length) * m := by rw [← Nat.add_mul]; congr 1; omega
          show (if g = g ∧ es.length * m ≤ 0 + (j * m + i) ∧ 0 + (j * m + i) < es.length * m + news.length then news[0 + (j * m + i) - es.length * m]? else _) = _
          rw [if_pos ⟨rfl, by omega, by omega⟩, show 0 + (j * m + i) - es.length * m = (j - es.length) * m + i by omega, g1]; rfl
      · rcases Nat.lt_or_ge j es.length with hj | hj
        · rw [List.getElem?_append_left hj] at he
          simp only [if_pos hj]
          exact (hrr j e i y he hy).mono hsub
        · rw [List.getElem?_append_right hj] at he
          simp only [if_neg (Nat.not_lt.2 hj)]
          obtain ⟨v, g1, g2⟩ := hr.get (flat_get hyl he hy)
          simp only [g1, Option.getD_some]
          exact g2.mono hsub
  refine ⟨{ x with h := h', z := z' }, hsub, fun _ _ => rfl, fun t' ht' => ?_, fun b1 hb => ?_, ?_, ?_, fun _ h => h⟩
  · show (if t' = k then _ else x.z t') = x.z t'
    rw [if_neg (by simpa using ht')]
  · have hzz : ∀ t' q s e, z' t' = some (q, s, e) → (t' = k ∧ q = g ∧ s = (es.length + ys.length) * m ∧ e = cap * m) ∨ (t' ≠ k ∧ x.z t' = some (q, s, e)) := fun t' q s e h => by
      simp only [z'] at h
      split at h
      · cases h; exact .inl ⟨by assumption, rfl, rfl, rfl⟩
      · exact .inr ⟨by assumption, h⟩
    have hne : ∀ t' q s e, t' ≠ k → x.z t' = some (q, s, e) → q ≠ g := fun t' q s e h1 h2 e0 => by subst e0; exact h1 (S.ws.zinj _ _ _ _ _ _ _ h2 hz)
    have hbx : ∀ i c, getB b i = some c → x.ρ i ≠ g := fun i c hc => S.ws.zbox k g _ _ i c hz hc
    have hsome : ∀ i, (getB ([] : Boxes) i ≠ none ∨ getB b i ≠ none) → ∃ c, getB b i = some c := fun i hi => by
      cases h4 : getB b i with
      | some c => exact ⟨c, rfl⟩
      | none => exact absurd h4 (hi.resolve_left (by simp [getB]))
    refine S.ws.step (wr := []) (x' := { x with h := h', z := z' }) hI hb hsub (fun _ _ => rfl) (fun t' ht' => ?_) (by rw [hsize]; exact Nat.le_refl _) (fun q hq => hoth q (fun e => hq (e ▸ hm))) (fun q o v hv => ?_) (fun i c0 _ hc0 => ?_) (fun i c0 hn => by cases hn) (fun i j hi hj hij => ?_) (fun t' q s e hq => ?_) (fun t' t'' q s e s' e' g1 g2 => ?_) (fun t' q s e i hq hi => ?_) (fun q hq => (let ⟨ws2, f2, h2⟩ := S.ws.uu q hq; if e : q = g then ⟨ws', (0, 0), by rw [e, hg] at h2; cases h2; rw [e]; exact hblk⟩ else ⟨ws2, f2, by rw [hoth q e]; exact h2⟩)) (fun _ h => h) (fun i c0 hn => by cases hn)
    · show (if t' = k then _ else x.z t') = x.z t'
      rw [if_neg (by simpa using ht')]
    · have hv' : (if q = g ∧ es.length * m ≤ o ∧ o < es.length * m + news.length then news[o - es.length * m]? else x.h q o) = some v := hv
      split at hv'
      · rename_i h; obtain ⟨e0, h1, h2⟩ := h
        have hb2 : (w.setRow g (putVs cur.toList (es.length * m) news).toArray).heap[g]? = some (.cells ws' et (0, 0)) := hblk
        rw [e0]
        unfold World.cell?
        rw [hb2]
        have : ws'[o]? = some v := by
          show (putVs cur.toList (es.length * m) news).toArray[o]? = some v
          rw [putVs_eq _ _ _ hfit, List.getElem?_toArray, List.append_assoc, List.getElem?_append_right (by rw [List.length_take]; omega)]
          rw [List.length_take, Nat.min_eq_left (by omega), List.getElem?_append_left (by omega)]
          exact hv'
        simpa using this
      · rename_i h
        have hcc := S.ws.agree q o v hv'
        by_cases e : q = g
        · rw [e] at hv' hcc ⊢
          have ho : o < es.length * m := by
            rcases Nat.lt_or_ge o (es.length * m) with h1 | h1
            · exact h1
            · rw [hn o h1] at hv'; cases hv'
          have hb2 : (w.setRow g (putVs cur.toList (es.length * m) news).toArray).heap[g]? = some (.cells ws' et (0, 0)) := hblk
          unfold World.cell? at hcc ⊢
          rw [hg] at hcc
          rw [hb2]
          have : ws'[o]? = cur[o]? := by
            show (putVs cur.toList (es.length * m) news).toArray[o]? = _
            rw [putVs_eq _ _ _ hfit, List.getElem?_toArray, List.append_assoc, List.getElem?_append_left (by rw [List.length_take]; omega), List.getElem?_take_of_lt ho, Array.getElem?_toList]
          simp only at hcc ⊢
          rw [this]; exact hcc
        · rw [cell_of_block (w := w) (hoth q e)]; exact hcc
    · refine ⟨by simp, hoth _ (hbx i c0 hc0), fun o => ?_⟩
      show (if x.ρ i = g ∧ es.length * m ≤ o ∧ o < es.length * m + news.length then news[o - es.length * m]? else x.h (x.ρ i) o) = none
      rw [if_neg (fun h => hbx i c0 hc0 h.1)]
      exact (S.ws.box i c0 hc0).2.1 o
    · obtain ⟨c1, h4⟩ := hsome i hi
      obtain ⟨c2, h5⟩ := hsome j hj
      exact S.ws.inj i j c1 c2 h4 h5 hij
    · rcases hzz _ _ _ _ hq with ⟨_, e2, e3, e4⟩ | ⟨g1, g2⟩
      · rw [e2, e3, e4]
        refine ⟨hm, Nat.mul_le_mul_right _ hroom, fun o ho => ?_, ws', et, hblk, by rw [hws, hcur]⟩
        show (if g = g ∧ es.length * m ≤ o ∧ o < es.length * m + news.length then _ else x.h g o) = none
        rw [Nat.add_mul] at ho
        rw [if_neg (by omega)]
        exact hn o (by omega)
      · obtain ⟨q1, q2, q3, wz, tz, q4, q5⟩ := S.ws.zone _ q s e g2
        have hqg := hne _ _ _ _ g1 g2
        refine ⟨q1, q2, fun o ho => ?_, wz, tz, by rw [hoth q hqg]; exact q4, q5⟩
        show (if q = g ∧ es.length * m ≤ o ∧ o < es.length * m + news.length then news[o - es.length * m]? else x.h q o) = none
        rw [if_neg (fun h => hqg h.1)]; exact q3 o ho
    · rcases hzz _ _ _ _ g1 with ⟨e1, e2, _⟩ | ⟨e1, e2⟩ <;> rcases hzz _ _ _ _ g2 with ⟨e3, e4, _⟩ | ⟨e3, e4⟩
      · rw [e1, e3]
      · exact absurd e2 (hne _ _ _ _ e3 e4)
      · exact absurd e4 (hne _ _ _ _ e1 e2)
      · exact S.ws.zinj _ _ q s e s' e' e2 e4
    · obtain ⟨c1, h4⟩ := hsome i hi
      rcases hzz _ _ _ _ hq with ⟨_, e2, _⟩ | ⟨_, g2⟩
      · rw [e2]; exact hbx i c1 h4
      · exact S.ws.zbox _ q s e i c1 g2 h4
  · refine ⟨rfl, rfl, rfl, by rw [hsize]; exact Nat.le_refl _, fun q hq => hoth q (fun e => hq (e ▸ hm)), hsub, fun q hq => ?_, fun _ _ => rfl, fun _ h => h⟩
    funext o
    show (if q = g ∧ es.length * m ≤ o ∧ o < es.length * m + news.length then news[o - es.length * m]? else x.h q o) = x.h q o
    rw [if_neg (fun h : q = g ∧ es.length * m ≤ o ∧ o < es.length * m + news.length => hq (by rw [h.1]; exact hm))]
  · refine .inr ⟨g, cap, by simp, ?_, by simpa using hrep, fun h8 => ?_, fun he => hc0 (List.append_eq_nil_iff.1 he).1⟩
    rotate_left
    · cases es with
      | nil =>
        have h0 := hc0 rfl
        have : ys = [] := List.eq_nil_of_length_eq_zero (by simp at hroom; omega)
        subst this
        exact absurd h8 hd8_nil
      | cons q es =>
        obtain ⟨c, r, hc⟩ := h8
        rw [List.cons_append] at hc
        injection hc with e1 e2
        exact hg8 ⟨c, es, by rw [e1]⟩
    show (if k = k then some (g, (es.length + ys.length) * m, cap * m) else x.z k) = _
    rw [if_pos rfl]; simp
theorem at_list {h : H} {bk : Nat} : ∀ {e : List D} {o : Nat}, RepAt h bk o e → ∃ vs : List Value, RepDs h e vs ∧ ∀ (j : Nat) v, vs[j]? = some v → h bk (o + j) = some v
  | [], o, _ => ⟨[], rfl, fun j v hv => by cases hv⟩
  | y :: e, o, ⟨⟨v, hv, hr⟩, r⟩ => by
    obtain ⟨vs, g1, g2⟩ := at_list r
    refine ⟨v :: vs, ⟨v, vs, rfl, hr, g1⟩, fun j u hu => ?_⟩
    cases j with
    | zero => simp at hu; subst hu; exact hv
    | succ j => rw [show o + (j + 1) = o + 1 + j by omega]; exact g2 j u (by simpa using hu)
theorem rows_list {h : H} {bk m : Nat} : ∀ (es : List (List D)) (off : Nat) (vs : Nat → Nat → Value), (∀ e ∈ es, e.length = m) → (∀ (j : Nat) e (i : Nat) y, es[j]? = some e → e[i]? = some y → h bk (off + (j * m + i)) = some (vs j i) ∧ RepD h (vs j i) y) →
    ∃ news : List Value, RepDs h es.flatten news ∧ ∀ (j : Nat) v, news[j]? = some v → h bk (off + j) = some v
  | [], off, vs, _, _ => ⟨[], rfl, fun j v hv => by cases hv⟩
  | e :: es, off, vs, hl, hh => by
    obtain ⟨r1, q1, q2⟩ := at_list (RepAt.of e off (vs 0) (fun i y hy => by
      have := hh 0 e i y rfl hy
      rw [Nat.zero_mul, Nat.zero_add] at this
      exact this))
    obtain ⟨r2, q3, q4⟩ := rows_list es (off + m) (fun j => vs (j + 1)) (fun e he => hl e (by simp [he])) (fun j e' i y he hy => by
      have := hh (j + 1) e' i y (by simpa using he) hy
      rw [show off + m + (j * m + i) = off + ((j + 1) * m + i) by rw [Nat.add_mul]; omega]
      exact this)
    have hr1 : r1.length = m := by rw [q1.length]; exact hl e (by simp)
    refine ⟨r1 ++ r2, q1.take_append q3, fun j v hv => ?_⟩
    rcases Nat.lt_or_ge j m with hj | hj
    · rw [List.getElem?_append_left (by omega)] at hv; exact q2 j v hv
    · rw [List.getElem?_append_right (by omega), hr1] at hv
      have := q4 _ v hv
      rw [show off + m + (j - m) = off + j by omega] at this
      exact this
theorem len_of {h : H} {v : Value} {m : Nat} {es : List (List D)} (r : RepD h v (.sl m es)) : ∀ e ∈ es, e.length = m := by
  rcases r.slice with ⟨_, rfl⟩ | ⟨_, _, _, _, _, _, hn, _⟩
  · simp
  · intro e he
    obtain ⟨j, hj, rfl⟩ := List.mem_iff_getElem.1 he
    exact hn j _ (List.getElem?_eq_getElem hj)
/-- what is to be appended, as the model reads it -/
theorem firstCells_rep (S : WSim I B0 M x b w) {v : Value} {m : Nat} {es : List (List D)} (r : RepD x.h v (.sl m es)) : ∃ news : List Value, RepDs x.h es.flatten news ∧ (Builtin.lenOf v).run P w = .ok es.length w ∧
    ∀ w' : World, w'.heap = w.heap → (Builtin.firstCells m es.length v).run P w' = .ok news.toArray w' := by
  rcases r.slice with ⟨rfl, rfl⟩ | ⟨ad, cap, vs, rfl, ha, _, hn, hh, hr⟩
  · exact ⟨[], rfl, rfl, fun w' _ => by simp [Builtin.firstCells]⟩
  · obtain ⟨news, g1, g2⟩ := rows_list es ad.off vs (len_of r) (fun j e i y he hy => ⟨hh j e i y he hy, hr j e i y he hy⟩)
    refine ⟨news, g1, rfl, fun w' hw => ?_⟩
    have hl : news.length = es.length * m := by rw [g1.length, flat_len (len_of r)]
    refine run_firstCells_some (P := P) w' m es.length ad es.length cap news hl (fun j v hv => ?_)
    have hne : es ≠ [] := by intro e0; subst e0; simp at hl; subst hl; cases hv
    have hsp := ha hne
    obtain ⟨bk, off, sp⟩ := ad
    simp only at hsp
    subst hsp
    rw [add_plain, cell_of_block (w := w) (by rw [hw])]
    exact S.agree _ _ _ (g2 j v hv)
theorem RepDs.one {h : H} : ∀ {ds : List D} {l : List Value}, RepDs h ds l → ∀ c ∈ l, c.oneCell' = true
  | [], l, r => by have : l = [] := r; subst this; intro c hc; cases hc
  | y :: ds, l, r => by
    obtain ⟨v, l0, rfl, h1, h2⟩ := r
    intro c hc
    cases hc with
    | head => exact h1.one
    | tail _ hc => exact h2.one c hc
theorem EffOK.scr (S : Sim I B0 M nt x t b a w) (hI : Stable I B0) {u : V} {v : Value} (scr : List Tok) (hv : RepV x u v) : EffOK I B0 M x b { v := u, scr := scr } w v x w := by
  refine ⟨fun _ _ _ h => h, fun _ _ => rfl, fun _ _ => rfl, fun b1 hb => ?_, Ext.refl _ _, hv, fun _ h => h⟩
  have hsome : ∀ i, (getB ([] : Boxes) i ≠ none ∨ getB b i ≠ none) → ∃ c, getB b i = some c := fun i hi => by
    cases h4 : getB b i with
    | some c => exact ⟨c, rfl⟩
    | none => exact absurd h4 (hi.resolve_left (by simp [getB]))
  refine S.ws.step (wr := []) hI hb (fun _ _ _ h => h) (fun _ _ => rfl) (fun _ _ => rfl) (Nat.le_refl _) (fun _ _ => rfl) S.ws.agree (fun i c0 _ hc => ⟨by simp, rfl, (S.ws.box i c0 hc).2.1⟩) (fun i c0 hn => by cases hn) (fun i j hi hj hij => ?_) S.ws.zone S.ws.zinj (fun t' k s e i hz hi => ?_) S.ws.uu (fun _ h => h) (fun i c0 hn => by cases hn)
  · obtain ⟨c1, h1⟩ := hsome i hi
    obtain ⟨c2, h2⟩ := hsome j hj
    exact S.ws.inj i j c1 c2 h1 h2 hij
  · obtain ⟨c1, h1⟩ := hsome i hi
    exact S.ws.zbox t' k s e i c1 hz h1
theorem append_ok (hI : Stable I B0) (S : Sim I B0 M nt x t b a w) {tq u tr e m by0 : Nat} {i : TypeInfo} {z : Value} (ht : P.underlying tq = some (.slice e)) (hu : plainTy P u) (hi : P.info? e = some i) (hsz : i.size = m) (hby : i.bytes = by0) (hz : i.zero = some z) (hzs : z.cells.size = m) (hb0 : 0 < by0)
    {k : Tok} {es ys : List (List D)} {vs vy : Value} (hs : (∃ k0, vs = .slice none 0 0 ∧ es = [] ∧ k0 = k) ∨ RepOwn x k m es vs) {news : List Value} (hyl : ∀ e ∈ ys, e.length = m) (hny : RepDs x.h ys.flatten news) (hlen : (Builtin.lenOf vy).run P w = .ok ys.length w)
    (hfc : ∀ w' : World, w'.heap = w.heap → (Builtin.firstCells m ys.length vy).run P w' = .ok news.toArray w') (hfit : (es.length + ys.length) * by0 ≤ 140737488355328) (hok : okHd e m es ys = true) :
    ∃ v x' w', (Builtin.append_ #[tq, u] tr #[vs, vy]).run P w = .ok v w' ∧ EffOK I B0 M x b { v := .own k m (es ++ ys), scr := [k] } w v x' w' := by
  have hsm : es.length + ys.length ≤ 140737488355328 := Nat.le_trans (Nat.le_mul_of_pos_right _ hb0) hfit
  have hnl : news.length = ys.length * m := by rw [hny.length, flat_len hyl]
  have grow : ∀ (ad : Option Addr) (cap : Nat) (olds : List Value), vs = .slice ad es.length cap → cap < es.length + ys.length → (∀ e ∈ es, e.length = m) → RepDs x.h es.flatten olds → (Builtin.firstCells m es.length vs).run P w.drew = .ok olds.toArray w.drew →
      ∃ v x' w', (Builtin.append_ #[tq, u] tr #[vs, vy]).run P w = .ok v w' ∧ EffOK I B0 M x b { v := .own k m (es ++ ys), scr := [k] } w v x' w' := by
    intro ad cap olds hvs hcap hel ho hfo
    have hol : olds.length = es.length * m := by rw [ho.length, flat_len hel]
    have hge := grownCap_ge w (es.length + ys.length) cap e
    let G := grownCap w (es.length + ys.length) cap e
    let cells : Array Value := olds.toArray ++ news.toArray ++ Builtin.zeroCells z.cells (G - (es.length + ys.length))
    have hrun := run_append_new (P := P) (w := w) tq u tr e i z ht hu hi hz vs ad es.length cap ys.length hvs vy olds news hlen (by rw [hsz]; exact hfc w.drew rfl) (by rw [hsz]; exact hfo) hcap (by omega) (by rw [hby]; exact growslice_fits hcap hfit)
    have hcs : cells.size = G * m := by
      show (olds.toArray ++ news.toArray ++ Builtin.zeroCells z.cells (G - (es.length + ys.length))).size = G * m
      simp only [Array.size_append, List.size_toArray, size_zeroCells, hzs, hol, hnl, ← Nat.add_mul]
      congr 1
      omega
    have hh : (w.drew.alloc (.cells cells e)).heap[w.heap.size]? = some (.cells cells e (0, 0)) := push_eq
    obtain ⟨x', hx⟩ := EffOK.newRow S hI (w' := w.drew.alloc (.cells cells e)) (o := .cells cells e) (fun q hq => push_lt hq) push_eq (by show w.heap.size < (w.heap.push _).size; simp) rfl rfl rfl m (es ++ ys) (olds ++ news) (fun q hq => by
        rcases List.mem_append.1 hq with h | h
        · exact hel q h
        · exact hyl q h) (by rw [List.flatten_append]; exact ho.take_append hny) (fun j v hv => by
        unfold World.cell?
        rw [hh]
        have : cells[j]? = some v := by
          have hlt : j < (olds ++ news).length := (List.getElem?_eq_some_iff.1 hv).1
          rw [← Array.getElem?_toList]
          show (olds.toArray ++ news.toArray ++ Builtin.zeroCells z.cells (G - (es.length + ys.length))).toList[j]? = some v
          rw [Array.toList_append, Array.toList_append, List.getElem?_append_left (by simpa using hlt)]
          simpa using hv
        simpa using this) G (by simp; omega) (some k) (fun _ => ⟨cells, e, rfl, hcs⟩) [k] (fun k' hk' => by cases hk'; simp) (.own k m (es ++ ys)) (.inr ⟨k, rfl, rfl⟩) (fun _ h8 => ⟨cells, (0, 0), by rw [okHd_spec hok (fun q hq => (List.mem_append.1 hq).elim (hel q) (hyl q)) h8]⟩) (fun _ he => by have h0 := congrArg List.length he; rw [List.length_append, List.length_nil] at h0; omega)
    rw [List.length_append] at hx
    exact ⟨_, x', _, hrun, hx⟩
  have nilcase : vs = .slice none 0 0 → es = [] → (x.z k = none ∨ ys ≠ []) → ∃ v x' w', (Builtin.append_ #[tq, u] tr #[vs, vy]).run P w = .ok v w' ∧ EffOK I B0 M x b { v := .own k m (es ++ ys), scr := [k] } w v x' w' := by
    intro hvs hes hor
    subst hes
    by_cases hys : ys = []
    · subst hys
      have hn0 : news = [] := List.eq_nil_of_length_eq_zero (by simpa using hnl)
      subst hn0
      have hzk : x.z k = none := hor.resolve_right (by simp)
      subst hvs
      exact ⟨_, x, w, run_append_none tq u tr e i ht hu hi vy hlen (by rw [hsz]; exact hfc w rfl), EffOK.scr S hI [k] (.inl ⟨rfl, rfl, hzk⟩)⟩
    · have hpos : 0 < ys.length := List.length_pos_iff.2 hys
      exact grow none 0 [] hvs (by simpa using hpos) (by simp) rfl (by subst hvs; simp [Builtin.firstCells])
  rcases hs with ⟨k0, h1, h2, rfl⟩ | h
  · by_cases hys : ys = []
    · subst hys
      subst h2
      have hn0 : news = [] := List.eq_nil_of_length_eq_zero (by simpa using hnl)
      subst hn0
      subst h1
      have hstep : EffOK I B0 M x b { v := .own k0 m ([] ++ []), scr := [k0] } w (.slice none 0 0) { x with z := fun t' => if t' = k0 then none else x.z t' } w := by
        have hsc := EffOK.scr S hI (u := .undef) (v := .slice none 0 0) [k0] trivial
        refine ⟨fun _ _ _ h => h, fun _ _ => rfl, fun t' ht' => ?_, fun b1 hb => ?_, Ext.refl _ _ |>.trans ⟨rfl, rfl, rfl, Nat.le_refl _, fun _ _ => rfl, fun _ _ _ h => h, fun _ _ => rfl, fun _ _ => rfl, fun _ h => h⟩, .inl ⟨rfl, rfl, by simp⟩, fun _ h => h⟩
        · show (if t' = k0 then none else x.z t') = x.z t'
          rw [if_neg (by simpa using ht')]
        · have hsome : ∀ i, (getB ([] : Boxes) i ≠ none ∨ getB b i ≠ none) → ∃ c, getB b i = some c := fun i hi => by
            cases h4 : getB b i with
            | some c => exact ⟨c, rfl⟩
            | none => exact absurd h4 (hi.resolve_left (by simp [getB]))
          have hzz : ∀ t' p, (if t' = k0 then none else x.z t') = some p → x.z t' = some p := fun t' p h => by
            split at h
            · cases h
            · exact h
          refine S.ws.step (wr := []) (x' := { x with z := fun t' => if t' = k0 then none else x.z t' }) hI hb (fun _ _ _ h => h) (fun _ _ => rfl) (fun t' ht' => by
            show (if t' = k0 then none else x.z t') = x.z t'
            rw [if_neg (by simpa using ht')]) (Nat.le_refl _) (fun _ _ => rfl) S.ws.agree (fun i c0 _ hc => ⟨by simp, rfl, (S.ws.box i c0 hc).2.1⟩) (fun i c0 hn => by cases hn) (fun i j hi hj hij => ?_) (fun t' q s e' hq => S.ws.zone t' q s e' (hzz _ _ hq)) (fun t' t'' q s e1 s' e2 h1 h2 => S.ws.zinj _ _ _ _ _ _ _ (hzz _ _ h1) (hzz _ _ h2)) (fun t' q s e' i hz hi => ?_) S.ws.uu (fun _ h => h) (fun i c0 hn => by cases hn)
          · obtain ⟨c1, h1⟩ := hsome i hi
            obtain ⟨c2, h2⟩ := hsome j hj
            exact S.ws.inj i j c1 c2 h1 h2 hij
          · obtain ⟨c1, h1⟩ := hsome i hi
            exact S.ws.zbox t' q s e' i c1 (hzz _ _ hz) h1
      exact ⟨_, _, w, run_append_none tq u tr e i ht hu hi vy hlen (by rw [hsz]; exact hfc w rfl), hstep⟩
    · exact nilcase h1 h2 (.inr hys)
  · rcases h with ⟨h1, h2, h3⟩ | ⟨g, cap, h1, h2, h3, h8, h9⟩
    · exact nilcase h1 h2 (.inl h3)
    · have hel := len_of h3
      obtain ⟨_, hse, _, cur, et, hg, hcur⟩ := S.ws.zone k g _ _ h2
      subst h1
      by_cases hroom : es.length + ys.length ≤ cap
      · obtain ⟨x', hx⟩ := EffOK.stay S hI h2 hg hcur h3 hyl hny hroom h8 h9
        have hfitc : es.length * i.size + news.length ≤ cur.size := by
          rw [hsz, hnl, hcur, ← Nat.add_mul]; exact Nat.mul_le_mul_right _ hroom
        refine ⟨_, x', _, run_append_stay tq u tr e i ht hu hi g es.length cap ys.length cur et hg vy news hlen (by rw [hsz]; exact hfc w rfl) hny.one hroom hfitc, ?_⟩
        rw [hsz]; exact hx
      · obtain ⟨olds, o1, _, o3⟩ := firstCells_rep (P := P) S.ws h3
        exact grow (some ⟨g, 0, none⟩) cap olds rfl (by omega) hel o1 (o3 w.drew rfl)
end
end Go.Proofs.YtaddhpeainliiaaGreatDoor.Id
/-! ## IdealL -/
namespace Go.Proofs.YtaddhpeainliiaaGreatDoor.Id
open Go
set_option linter.unusedSectionVars false
set_option linter.unusedVariables false
set_option linter.unusedSimpArgs false
section
variable {I : World → Prop} {B0 : Nat} {M : Nat → Prop} {P : Program} {tt : TT} {X : Given} {n nt : Nat} {x : Aux} {t : Tmps} {b : Boxes} {a : Act} {w : World}
variable [Ds]
variable {dst : Option Tmp} {ty : TypeId} {pos : String} {after : Array Edge} {guard : Option (Nat × Bool)} {r : Res}
theorem arr1 {α : Type} {a : Array α} {x : α} (h : a.toList = [x]) : a = #[x] := by cases a; simp at h; subst h; rfl
theorem arr2 {α : Type} {a : Array α} {x y : α} (h : a.toList = [x, y]) : a = #[x, y] := by cases a; simp at h; subst h; rfl
theorem map1 {α β : Type} {f : α → β} : ∀ {l : List α} {y : β}, l.map f = [y] → ∃ z, l = [z] ∧ f z = y
  | [z], y, h => ⟨z, rfl, by simpa using h⟩
  | [], _, h => by cases h
  | _ :: _ :: _, _, h => by simp at h
theorem map2 {α β : Type} {f : α → β} : ∀ {l : List α} {y y' : β}, l.map f = [y, y'] → ∃ z z', l = [z, z'] ∧ f z = y ∧ f z' = y'
  | [z, z'], y, y', h => ⟨z, z', rfl, by simpa using h⟩
  | [], _, _, h => by cases h
  | [_], _, _, h => by simp at h
  | _ :: _ :: _ :: _, _, _, h => by simp at h
theorem run_builtin (bi : Builtin) (args : Array Operand) (ts : Array TypeId) (v : Value) (w' : World) (h : (builtin bi ts ty (args.map fun | .const _ => true | _ => false) (args.map a.eval)).run P w = .ok (.value v) w') :
    (execOp a.eval ⟨dst, .call ⟨.builtin bi, args, ts⟩, ty, pos, after, guard⟩).run P w = .ok (.value v) w' := by
  simp only [execOp, resolve]
  rw [Sem.run_bind]
  show Result.andThen (.ok _ w) _ = _
  rw [Result.andThen_ok]
  exact h
theorem byteEs_len (s : ByteArray) : (byteEs s).length = s.size := by
  unfold byteEs; rw [List.length_map, Array.length_toList]; rfl
theorem byteEs_one (s : ByteArray) : ∀ e ∈ byteEs s, e.length = 1 := by
  intro e he
  obtain ⟨c, _, rfl⟩ := List.mem_map.1 he
  rfl
theorem byteEs_rep {h : H} (l : List UInt8) : RepDs h (l.map byteD).flatten (l.map fun b => Value.int .u8 b.toNat) := by
  induction l with
  | nil => exact rfl
  | cons c l ih => exact ⟨_, _, rfl, RepD.int _ _, ih⟩
theorem sc_string (htt : TTok P tt) {tq n1 : Nat} {s : ByteArray} {cmp : Bool} (h : TT.get tt tq = some ⟨.sc, n1, [.d (.str s)], cmp⟩) : P.underlying tq = some .string := by
  obtain ⟨d, hu, _, _, _, hs, _⟩ := (htt _ _ h).kind
  rw [hu, hs _ rfl]
theorem sc_int (htt : TTok P tt) {tq n1 : Nat} {k : IntKind} {z : Int} {cmp : Bool} (h : TT.get tt tq = some ⟨.sc, n1, [.d (.int k z)], cmp⟩) : P.underlying tq = some (.int k) := by
  obtain ⟨d, hu, _, _, hs, _⟩ := (htt _ _ h).kind
  rw [hu, hs _ _ rfl]
theorem op_builtin (htt : TTok P tt) (hI : Stable I B0) (S : Sim I B0 M nt x t b a w) (bi : Builtin) (args : Array Operand) (ts : Array TypeId) (h : DenN P tt X n Res (opEff tt ⟨dst, .call ⟨.builtin bi, args, ts⟩, ty, pos, after, guard⟩ (St.ev ⟨t, b⟩) (getB b)) r) : OpOK I B0 M P ⟨dst, .call ⟨.builtin bi, args, ts⟩, ty, pos, after, guard⟩ a x b w r := by
  simp only [opEff] at h
  unfold evBuiltin at h
  split at h
  · rename_i tq u hts hxs
    obtain ⟨z, hz, rfl⟩ := map1 hxs
    obtain rfl := arr1 hz
    obtain rfl := arr1 hts
    have hv := S.ev z
    split at h
    · rename_i s e1 e2
      rw [e2] at hv
      refine OpOK.pure S (v := .int .i64 s.size) (den_val h) (run_builtin _ _ _ _ _ ?_) (RepD.int _ _)
      simp [builtin, Builtin.len_, hv.str, run_underlying (sc_string htt e1)]; rfl
    · rename_i e1
      obtain ⟨hu, _⟩ := (htt _ _ e1).kind
      split at h
      · rename_i m es e3
        refine OpOK.pure S (v := .int .i64 es.length) (den_val h) (run_builtin _ _ _ _ _ ?_) (RepD.int _ _)
        rcases (slOf_rep e3 hv).slice with ⟨h1, rfl⟩ | ⟨ad, cap, vs, h1, _⟩
        · simp [builtin, Builtin.len_, h1, run_underlying hu]; rfl
        · simp [builtin, Builtin.len_, h1, run_underlying hu]; rfl
      · exact (den_fail h).elim
    · exact (den_fail h).elim
  · rename_i tq u y0 y1 hts hxs
    obtain ⟨z, z', hz, rfl, rfl⟩ := map2 hxs
    obtain rfl := arr2 hz
    obtain rfl := arr2 hts
    have hu : DenN P tt X n Res (evAppend tt ⟨dst, .call ⟨.builtin .append, #[z, z'], #[tq, u]⟩, ty, pos, after, guard⟩ tq (St.ev ⟨t, b⟩ z) (St.ev ⟨t, b⟩ z')) r ∧ plainTy P u := by
      split at h
      · rename_i e1
        obtain ⟨hu, _⟩ := (htt _ _ e1).kind
        exact ⟨h, .inr ⟨_, hu⟩⟩
      · rename_i e1
        exact ⟨h, .inl (sc_string htt e1)⟩
      · exact (den_fail h).elim
    obtain ⟨h, hpl⟩ := hu
    have hv := S.ev z
    have hv' := S.ev z'
    unfold evAppend at h
    split at h
    · rename_i e m by0 n1 zero cmp d e1 e2
      obtain ⟨hut, _, ⟨i, zz, hi, hsz, hby, hzz, hzs, hm0, hb0⟩, _⟩ := (htt _ _ e1).kind
      have hys : ∀ ys, (match St.ev ⟨t, b⟩ z' with
          | .d (.str s) => match m with | 1 => some (byteEs s) | _ => none
          | v => match slOf v with
            | some (m', es) => match es with | [] => some [] | es => match Nat.beq m' m with | true => some es | false => none
            | none => none) = some ys → (∀ e ∈ ys, e.length = m) ∧ ∃ news : List Value, RepDs x.h ys.flatten news ∧ (Builtin.lenOf (a.eval z')).run P w = .ok ys.length w ∧ ∀ w' : World, w'.heap = w.heap → (Builtin.firstCells m ys.length (a.eval z')).run P w' = .ok news.toArray w' := by
        intro ys hq
        split at hq
        · rename_i s es0
          rw [es0] at hv'
          split at hq
          · cases hq
            refine ⟨byteEs_one s, Lib.strCells s, byteEs_rep _, ?_, fun w' _ => ?_⟩
            · rw [hv'.str, byteEs_len]; rfl
            · rw [hv'.str, byteEs_len]; exact Lib.run_firstCells_string w' 1 s
          · cases hq
        · split at hq
          · rename_i m' es hsl
            have hr := slOf_rep hsl hv'
            split at hq
            · cases hq
              refine ⟨by simp, ?_⟩
              rcases hr.slice with ⟨h1, _⟩ | ⟨ad, cap, vs, h1, _⟩
              · rw [h1]; exact ⟨[], rfl, rfl, fun w' _ => by simp [Builtin.firstCells]⟩
              · rw [h1]; exact ⟨[], rfl, rfl, fun w' _ => by simp [Builtin.firstCells, loadCells, loadCellsFrom]⟩
            · split at hq
              · rename_i hmm
                have hmm := Nat.eq_of_beq_eq_true hmm
                subst hmm
                cases hq
                exact ⟨len_of hr, firstCells_rep S.ws hr⟩
              · cases hq
          · cases hq
      simp only at h
      split at h
      · rename_i k m' es ys hx hy
        rw [hx] at hv
        split at h
        · rename_i hmm hok
          have hmm := Nat.eq_of_beq_eq_true hmm
          subst hmm
          obtain ⟨hfit, h⟩ := den_asrt h
          obtain rfl := den_leaf h
          obtain ⟨g1, news, g2, g3, g4⟩ := hys ys hy
          refine ⟨fun _ => ?_, fun u hu => by cases hu⟩
          obtain ⟨v, x', w', q1, q2⟩ := append_ok hI S (tr := ty) hut hpl hi hsz hby hzz hzs hb0 (.inr hv) g1 g2 g3 g4 hfit hok
          exact ⟨v, x', w', .inl (run_builtin _ _ _ _ _ (by simp [builtin, q1])), q2⟩
        · exact (den_fail h).elim
      · rename_i q ys hx hy
        rw [hx] at hv
        split at h
        rotate_left
        · exact (den_fail h).elim
        rename_i hok
        obtain ⟨hfit, h⟩ := den_asrt h
        obtain rfl := den_leaf h
        obtain ⟨g1, news, g2, g3, g4⟩ := hys ys hy
        refine ⟨fun _ => ?_, fun u hu => by cases hu⟩
        have hnil : a.eval z = .slice none 0 0 := by
          generalize a.eval z = vz at hv
          cases (RepV.d hv); rfl
        obtain ⟨v, x', w', q1, q2⟩ := append_ok hI S (tr := ty) hut hpl hi hsz hby hzz hzs hb0 (k := (d, here)) (es := []) (vs := a.eval z) (.inl ⟨_, hnil, rfl, rfl⟩) g1 g2 g3 g4 (by simpa using hfit) hok
        exact ⟨v, x', w', .inl (run_builtin _ _ _ _ _ (by simp [builtin, q1])), by simpa using q2⟩
      · exact (den_fail h).elim
    · exact (den_fail h).elim
  · rename_i k p k' q hxs
    obtain ⟨z, z', hz, h1, h2⟩ := map2 hxs
    obtain rfl := arr2 hz
    have hv := S.ev z
    have hv' := S.ev z'
    rw [h1] at hv
    rw [h2] at hv'
    refine OpOK.pure S (v := .int k (if q < p then q else p)) (den_val h) (run_builtin _ _ _ _ _ ?_) (RepD.int _ _)
    simp [builtin, Builtin.min_, Builtin.min2, hv.int, hv'.int]
  · rename_i k p k' q hxs
    obtain ⟨z, z', hz, h1, h2⟩ := map2 hxs
    obtain rfl := arr2 hz
    have hv := S.ev z
    have hv' := S.ev z'
    rw [h1] at hv
    rw [h2] at hv'
    refine OpOK.pure S (v := .int k (if p < q then q else p)) (den_val h) (run_builtin _ _ _ _ _ ?_) (RepD.int _ _)
    simp [builtin, Builtin.max_, Builtin.max2, hv.int, hv'.int]
  · exact (den_fail h).elim
/-! ### conversions -/
theorem op_convert (htt : TTok P tt) (hI : Stable I B0) (S : Sim I B0 M nt x t b a w) (sq tq : TypeId) (y : Operand) (h : DenN P tt X n Res (opEff tt ⟨dst, .convert sq tq y, ty, pos, after, guard⟩ (St.ev ⟨t, b⟩) (getB b)) r) : OpOK I B0 M P ⟨dst, .convert sq tq y, ty, pos, after, guard⟩ a x b w r := by
  obtain ⟨u, h1, h2⟩ := den_bind h
  have hy := S.ev y
  have fin : ∀ v, (convert sq tq (a.eval y)).run P w = .ok v w → RepV x u v → OpOK I B0 M P ⟨dst, .convert sq tq y, ty, pos, after, guard⟩ a x b w r := by
    intro v hr hv
    refine OpOK.pure S (den_val h2) ?_ hv
    simp only [execOp]
    rw [Sem.run_bind, hr]; rfl
  unfold evConv at h1
  split at h1
  · rename_i n1 zero cmp n2 k z cmp2 k0 q e1 e2 e3
    rw [e3] at hy
    obtain ⟨d, hd, _⟩ := (htt _ _ e1).kind
    have hu := sc_int htt e2
    obtain rfl := den_leaf h1
    refine fin (.int k (k.wrap q)) ?_ (RepD.int _ _)
    rw [hy.int]
    simp [convert, run_underlying hd, run_underlying hu, Conv.intToInt]
  · rename_i n1 zero cmp n2 s0 cmp2 s e1 e2 e3
    rw [e3] at hy
    obtain ⟨d, hd, _⟩ := (htt _ _ e1).kind
    have hu := sc_string htt e2
    obtain rfl := den_leaf h1
    refine fin (.string s) ?_ (RepD.str _)
    rw [hy.str]
    simp [convert, run_underlying hd, run_underlying hu]
  · rename_i e by0 n1 zero n2 s0 cmp2 e1 e2
    obtain ⟨hd, _, _, hc⟩ := (htt _ _ e1).kind
    have he := hc rfl
    have hu := sc_string htt e2
    split at h1
    · rename_i es e3
      have hn := hy.norm
      rw [e3] at hn
      obtain ⟨bs, rfl, h3⟩ := den_bytes h1
      obtain rfl := den_leaf h3
      have hrep : RepV x (.d (.str ⟨bs.toArray⟩)) (.string ⟨bs.toArray⟩) := RepD.str _
      refine fin (.string ⟨bs.toArray⟩) ?_ hrep
      have hs : RepD x.h (a.eval y) (.sl 1 (bs.map byteD)) := hn
      generalize a.eval y = v at hs
      rcases hs.slice with ⟨rfl, h0⟩ | ⟨ad, cap, vs, rfl, ha, _, hnn, hh, hr⟩
      · have : bs = [] := by simpa using h0
        subst this
        exact run_convert_bytes_nil w sq e hd he 0 0 tq hu
      · by_cases hb : bs = []
        · subst hb
          rw [run_convert_bytes_string w sq tq e _ _ _ hd he hu]
          simp [Conv.bytesToString, loadCells, loadCellsFrom]
          rfl
        · have hsp := ha (by simpa using hb)
          obtain ⟨bk, off, sp⟩ := ad
          simp only at hsp
          subst hsp
          have := run_convert_bytes_arg (P := P) w sq e hd he bk off (bs.map byteD).length cap (bs.map fun c => (c.toNat : Int)) (by simp) (fun i hi => by
            have hi' : i < bs.length := by simpa using hi
            have g1 : (bs.map byteD)[i]? = some (byteD bs[i]) := by simp [hi']
            have g2 := hh i _ 0 _ g1 rfl
            have g3 := hr i _ 0 _ g1 rfl
            have := S.ws.agree _ _ _ g2
            simp only [Nat.mul_one, Nat.add_zero] at this
            rw [this]
            generalize vs i 0 = vv at g3
            cases g3
            simp [hi']) tq hu
          rw [this]
          congr 2
          unfold strOfNums
          congr 2
          rw [List.map_map]
          conv => rhs; rw [← List.map_id bs]
          apply List.map_congr_left
          intro c _
          simp
    · exact (den_fail h1).elim
  · rename_i n1 s0 cmp e by0 n2 zero s e1 e2 e3
    rw [e3] at hy
    obtain ⟨hd, _, _, hc⟩ := (htt _ _ e2).kind
    have he := hc rfl
    have hu := sc_string htt e1
    obtain rfl := den_leaf h1
    obtain rfl := den_val h2
    refine ⟨fun _ => ?_, fun u hu => by cases hu⟩
    have hfr : ∀ (w1 : World) (ad : Addr) (k : Nat), (w1.freeze ad k).os = w1.os ∧ (w1.freeze ad k).tape = w1.tape ∧ (w1.freeze ad k).output = w1.output := fun w1 ad k => by
      unfold World.freeze; split <;> exact ⟨rfl, rfl, rfl⟩
    have hf := hfr (w.drew.alloc (.cells (Lib.bytesCells w e s) e)) ⟨w.heap.size, (Lib.bytesCells w e s).size, none⟩ 1
    obtain ⟨x', hx⟩ := EffOK.newRow S hI (w' := Lib.bytesWorld w e s) (fun k hk => Lib.bytesWorld_at_old w e s k hk) (Lib.bytesWorld_at_new w e s) (by rw [Lib.bytesWorld_size]; omega) (hf.1.trans rfl) (hf.2.1.trans rfl) (hf.2.2.trans rfl) 1 (s.data.toList.map byteD) (s.data.toList.map fun c => Value.int .u8 c.toNat) (by
        intro q hq; obtain ⟨c, _, rfl⟩ := List.mem_map.1 hq; rfl) (byteEs_rep _) (fun j v hv => by
        have hlt : j < s.data.toList.length := by have := (List.getElem?_eq_some_iff.1 hv).1; simpa using this
        rw [Lib.bytesWorld_cell w e s j (by rw [Array.length_toList] at hlt; exact hlt)]
        rw [List.getElem?_map, List.getElem?_eq_getElem hlt] at hv
        rw [List.getD_eq_getElem?_getD, List.getElem?_eq_getElem hlt]
        exact hv) (grownCap w s.size 0 e) (by rw [List.length_map, Array.length_toList]; exact grownCap_ge w s.size 0 e) none (fun h => absurd rfl h) [] (fun k hk => by cases hk) (.d (.sl 1 (s.data.toList.map byteD))) (.inl rfl) (fun h => absurd rfl h) (fun h => absurd rfl h)
    have hsl : (s.data.toList.map byteD).length = s.size := by rw [List.length_map, Array.length_toList]; rfl
    rw [hsl] at hx
    refine ⟨_, x', _, .inl ?_, hx⟩
    simp only [execOp]
    rw [Sem.run_bind, hy.str, Lib.run_convert_string_bytes w sq tq e s hu hd he]
    rfl
  · exact (den_fail h1).elim
end
end Go.Proofs.YtaddhpeainliiaaGreatDoor.Id
/-! ## IdealM -/
namespace Go.Proofs.YtaddhpeainliiaaGreatDoor.Id
open Go
set_option linter.unusedSectionVars false
set_option linter.unusedVariables false
set_option linter.unusedSimpArgs false
theorem getB_number {b0 : Nat} : ∀ (l : List (List V)) (k q : Nat), getB (number b0 l k) q = if b0 + k ≤ q then l[q - (b0 + k)]? else none
  | [], k, q => by simp [number, getB]
  | cs :: l, k, q => by
    simp only [number, getB]
    by_cases h : b0 + k = q
    · subst h; simp
    · have : Nat.beq (b0 + k) q = false := by rw [← Bool.not_eq_true]; exact fun e => h (Nat.eq_of_beq_eq_true e)
      rw [this, getB_number l (k + 1) q]
      by_cases h2 : b0 + k ≤ q
      · rw [if_pos h2, if_pos (by omega), show q - (b0 + k) = (q - (b0 + (k + 1))) + 1 by omega, List.getElem?_cons_succ]
      · rw [if_neg h2, if_neg (by omega)]
theorem getT_number {b0 : Nat} : ∀ (l : List V) (k q : Nat), getT (number b0 l k) q = if b0 + k ≤ q then (l[q - (b0 + k)]?).getD .undef else .undef
  | [], k, q => by simp [number, getT]
  | v :: l, k, q => by
    simp only [number, getT]
    by_cases h : b0 + k = q
    · subst h; simp
    · have : Nat.beq (b0 + k) q = false := by rw [← Bool.not_eq_true]; exact fun e => h (Nat.eq_of_beq_eq_true e)
      rw [this, getT_number l (k + 1) q]
      by_cases h2 : b0 + k ≤ q
      · rw [if_pos h2, if_pos (by omega), show q - (b0 + k) = (q - (b0 + (k + 1))) + 1 by omega, List.getElem?_cons_succ]
      · rw [if_neg h2, if_neg (by omega)]
theorem memN_iff {i : Nat} : ∀ {l : List Nat}, memN i l = true ↔ i ∈ l
  | [] => by simp [memN]
  | j :: l => by
    simp only [memN, Bool.or_eq_true, List.mem_cons]
    rw [memN_iff (l := l)]
    constructor
    · rintro (h | h)
      · exact .inl (Nat.eq_of_beq_eq_true h)
      · exact .inr h
    · rintro (h | h)
      · subst h; exact .inl (by simp)
      · exact .inr h
theorem addAll_nodup : ∀ {l m : List Nat}, l.Nodup → (addAll l m).Nodup
  | l, [], h => h
  | l, i :: r, h => by
    simp only [addAll]
    cases hm : memN i l with
    | true => exact addAll_nodup h
    | false =>
      refine addAll_nodup ?_
      rw [List.nodup_append]
      refine ⟨h, by simp, fun x hx y hy e => ?_⟩
      simp only [List.mem_singleton] at hy
      subst hy; subst e
      rw [memN_iff.2 hx] at hm; cases hm
theorem posOf_some : ∀ {l : List Nat} {q k p : Nat}, posOf q l k = some p → ∃ j, p = k + j ∧ l[j]? = some q
  | [], q, k, p, h => by cases h
  | j :: l, q, k, p, h => by
    simp only [posOf] at h
    split at h
    · rename_i e; cases h; exact ⟨0, rfl, by rw [Nat.eq_of_beq_eq_true e]; rfl⟩
    · obtain ⟨j', rfl, h2⟩ := posOf_some h
      exact ⟨j' + 1, by omega, by simpa using h2⟩
theorem posOf_get : ∀ {l : List Nat} {q k j : Nat}, l.Nodup → l[j]? = some q → posOf q l k = some (k + j)
  | [], q, k, j, _, h => by cases h
  | i :: l, q, k, 0, _, h => by simp at h; subst h; simp [posOf]
  | i :: l, q, k, j + 1, hn, h => by
    have hne : i ≠ q := by
      intro e; subst e
      have hm := List.mem_of_getElem? (by simpa using h : l[j]? = some i)
      exact (List.nodup_cons.1 hn).1 hm
    have : Nat.beq q i = false := by rw [← Bool.not_eq_true]; exact fun e => hne (Nat.eq_of_beq_eq_true e).symm
    simp only [posOf, this]
    rw [posOf_get (List.nodup_cons.1 hn).2 (by simpa using h : l[j]? = some q)]
    congr 1; omega
theorem boxesIn_spec {β : Nat → Option (List V)} {f : Nat → Option Nat} : ∀ {ids : List Nat} {j0 : Nat} {bx : List (List V)}, boxesIn β f ids j0 = some bx → bx.length = ids.length ∧ ∀ (j : Nat) cs, bx[j]? = some cs → ∃ q c0, ids[j]? = some q ∧ β q = some c0 ∧ cs = cellsRen f q (base + (j0 + j)) c0 0
  | [], j0, bx, h => by cases h; exact ⟨rfl, fun j cs h => by cases h⟩
  | i :: ids, j0, bx, h => by
    simp only [boxesIn] at h
    split at h
    · rename_i cs l e1 e2
      cases h
      obtain ⟨g1, g2⟩ := boxesIn_spec e2
      refine ⟨by simp [g1], fun j c hc => ?_⟩
      cases j with
      | zero => simp at hc; subst hc; exact ⟨i, cs, rfl, e1, rfl⟩
      | succ j =>
        obtain ⟨q, c0, h1, h2, h3⟩ := g2 j c (by simpa using hc)
        exact ⟨q, c0, by simpa using h1, h2, by rw [h3]; congr 1; omega⟩
    · cases h
theorem boxesIn_some {β : Nat → Option (List V)} {f : Nat → Option Nat} : ∀ {ids : List Nat} {j0 : Nat} {bx : List (List V)}, boxesIn β f ids j0 = some bx → ∀ q ∈ ids, ∃ cs, β q = some cs
  | [], _, _, _, q, hq => by cases hq
  | i :: ids, j0, bx, h, q, hq => by
    simp only [boxesIn] at h
    split at h
    · rename_i cs l e1 e2
      cases hq with
      | head => exact ⟨cs, e1⟩
      | tail _ hq => exact boxesIn_some e2 q hq
    · cases h
theorem boxesOut_spec {J : List Nat} : ∀ {ids : List Nat} {j0 : Nat} {l : List (List V)} {wr : Boxes}, boxesOut J ids j0 l = some wr → l.length = ids.length ∧
    (∀ i cs, getB wr i = some cs → (i, cs) ∈ wr ∧ ∃ j c', ids[j]? = some i ∧ l[j]? = some c' ∧ cs = cellsRen (unb J) (base + (j0 + j)) i c' 0) ∧ ∀ i, getB wr i = none → i ∉ ids
  | [], j0, [], wr, h => by cases h; exact ⟨rfl, (fun i cs h => by cases h), (fun i _ => by simp)⟩
  | [], j0, _ :: _, wr, h => by cases h
  | i :: ids, j0, [], wr, h => by cases h
  | i :: ids, j0, cs :: l, wr, h => by
    simp only [boxesOut] at h
    split at h
    · rename_i w0 e1
      cases h
      obtain ⟨g1, g2, g3⟩ := boxesOut_spec e1
      refine ⟨by simp [g1], fun q c hc => ?_, fun q hq => ?_⟩
      · simp only [getB] at hc
        split at hc
        · rename_i e
          obtain rfl := Nat.eq_of_beq_eq_true e
          cases hc
          exact ⟨by simp, 0, cs, rfl, rfl, rfl⟩
        · obtain ⟨h0, j, c', h1, h2, h3⟩ := g2 q c hc
          exact ⟨by simp [h0], j + 1, c', by simpa using h1, by simpa using h2, by rw [h3]; congr 1; omega⟩
      · simp only [getB] at hq
        split at hq
        · cases hq
        · rename_i e
          simp only [List.mem_cons, not_or]
          exact ⟨fun e2 => by subst e2; simp at e, g3 q hq⟩
    · cases h
theorem toksOf_mem {i : Nat} : ∀ {cs : List V} {c0 k : Nat} {t : Tok} {n : Nat} {es : List (List D)}, cs[k]? = some (.own t n es) → (i, c0 + k) ∈ toksOf i cs c0
  | [], c0, k, t, n, es, h => by cases h
  | v :: cs, c0, 0, t, n, es, h => by simp at h; subst h; simp [toksOf]
  | v :: cs, c0, k + 1, t, n, es, h => by
    have := toksOf_mem (i := i) (c0 := c0 + 1) (by simpa using h : cs[k]? = some (.own t n es))
    rw [show c0 + 1 + k = c0 + (k + 1) by omega] at this
    cases v <;> simp only [toksOf] <;> first | exact this | exact List.mem_cons_of_mem _ this
theorem catK_mem {t : Tok} : ∀ {l m : List Tok}, t ∈ catK l m ↔ t ∈ l ∨ t ∈ m
  | [], m => by simp [catK]
  | k :: l, m => by simp [catK, catK_mem (l := l), or_assoc]
theorem allToks_mem {t : Tok} : ∀ {w : Boxes} {i : Nat} {cs : List V}, (i, cs) ∈ w → t ∈ toksOf i cs 0 → t ∈ allToks w
  | [], i, cs, h, _ => by cases h
  | (j, c) :: w, i, cs, h, ht => by
    simp only [allToks, catK_mem]
    rcases List.mem_cons.1 h with e | h
    · cases e; exact .inl ht
    · exact .inr (allToks_mem h ht)
theorem boxesAt_mem {β : Nat → Option (List V)} {q : Nat} {cs : List V} (hβ : β q = some cs) : ∀ {ids : List Nat}, q ∈ ids → (q, cs) ∈ boxesAt β ids
  | [], h => by cases h
  | i :: ids, h => by
    simp only [boxesAt]
    rcases List.mem_cons.1 h with e | h
    · subst e; rw [hβ]; simp
    · split
      · exact List.mem_cons_of_mem _ (boxesAt_mem hβ h)
      · exact boxesAt_mem hβ h
mutual
theorem noBox_of {v : V} : boxIds v = [] → ∀ i, hasBox i v = false := by
  intro h i
  match v, h with
  | .box j o, h => simp [boxIds] at h
  | .fn g xs ys, h =>
    simp only [boxIds, List.append_eq_nil_iff] at h
    simp [hasBox, noBoxs_of h.1 i, noBoxs_of h.2 i]
  | .iface t u, h => simp only [boxIds] at h; simpa [hasBox] using noBox_of h i
  | .tuple vs, h => simp only [boxIds] at h; simpa [hasBox] using noBoxs_of h i
  | .undef, _ | .skip, _ | .nilp, _ | .lit _, _ | .d _, _ | .agg _, _ | .own _ _ _, _ | .ref _, _ => rfl
theorem noBoxs_of {vs : List V} : boxIdss vs = [] → ∀ i, hasBoxes i vs = false := by
  intro h i
  match vs, h with
  | [], _ => rfl
  | v :: r, h =>
    simp only [boxIdss, List.append_eq_nil_iff] at h
    simp [hasBoxes, noBox_of h.1 i, noBoxs_of h.2 i]
end
section
variable {x x' : Aux} {f : Nat → Option Nat}
mutual
theorem ren_rep (hh : ∀ b o v, x.h b o = some v → x'.h b o = some v) (hf : ∀ q p, f q = some p → x'.ρ p = x.ρ q) : ∀ (u : V) (v : Value), RepN x u v → RepN x' (ren f u) v
  | .undef, _, _ => trivial
  | .skip, _, r => r
  | .nilp, _, r => r
  | .lit _, _, r => r
  | .d _, _, r => RepD.mono hh r
  | .agg _, _, ⟨cs, e, r⟩ => ⟨cs, e, r.mono hh⟩
  | .own _ _ _, _, r => RepD.mono hh r
  | .box i off, v, r => by
    simp only [ren]
    cases h : f i with
    | none => trivial
    | some j =>
      simp only [RepN] at r ⊢
      rw [hf i j h]; exact r
  | .ref _, _, ⟨b, o, e, r⟩ => ⟨b, o, e, r.mono hh⟩
  | .fn _ us ws, _, ⟨ags, bs, e, r, q⟩ => ⟨ags, bs, e, rens_rep hh hf us _ r, rens_rep hh hf ws _ q⟩
  | .iface _ u, _, ⟨w, e, r⟩ => ⟨w, e, ren_rep hh hf u w r⟩
  | .tuple us, _, ⟨vs, e, r⟩ => ⟨vs, e, rens_rep hh hf us _ r⟩
theorem rens_rep (hh : ∀ b o v, x.h b o = some v → x'.h b o = some v) (hf : ∀ q p, f q = some p → x'.ρ p = x.ρ q) : ∀ (us : List V) (l : List Value), RepNs x us l → RepNs x' (rens f us) l
  | [], _, r => r
  | u :: r, _, ⟨v, vs, e, p, q⟩ => ⟨v, vs, e, ren_rep hh hf u v p, rens_rep hh hf r vs q⟩
end
theorem ren_ne_own (u : V) (h : ∀ t n es, u ≠ .own t n es) : ∀ t n es, ren f u ≠ .own t n es := by
  intro t n es e
  cases u <;> simp only [ren] at e <;> first | (cases e; done) | exact h _ _ _ rfl | (split at e <;> cases e)
theorem cellsRen_rep (hh : ∀ b o v, x.h b o = some v → x'.h b o = some v) (hf : ∀ q p, f q = some p → x'.ρ p = x.ρ q) (hu : ∀ k, x.u k → x'.u k) {i i' : Nat} : ∀ {us : List V} {l : List Value} {c : Nat}, RepVs x us l →
    (∀ k n es, us[k]? = some (.own (i, c + k) n es) → x'.z (i', c + k) = x.z (i, c + k)) → RepVs x' (cellsRen f i i' us c) l
  | [], l, c, r, _ => r
  | u :: us, l, c, ⟨v, vs, e, p, q⟩, hz => by
    refine ⟨v, vs, e, ?_, cellsRen_rep hh hf hu q (fun k n es hk => by
      have := hz (k + 1) n es (by rw [show c + (k + 1) = c + 1 + k by omega]; simpa using hk)
      rw [show c + (k + 1) = c + 1 + k by omega] at this
      exact this)⟩
    cases u with
    | own t n es =>
      simp only
      cases ht : eqTok t (i, c) with
      | true =>
        obtain rfl := eqTok_iff.1 ht
        have hz0 := hz 0 n es rfl
        rw [Nat.add_zero] at hz0
        show RepOwn x' (i', c) n es v
        rcases (show RepOwn x (i, c) n es v from p) with ⟨h1, h2, h3⟩ | ⟨b, cap, h1, h2, h3⟩
        · exact .inl ⟨h1, h2, by rw [hz0]; exact h3⟩
        · exact .inr ⟨b, cap, h1, by rw [hz0]; exact h2, h3.1.mono hh, fun h8 => hu _ (h3.2.1 h8), h3.2.2⟩
      | false => exact RepD.mono hh (RepOwn.repD p)
    | _ => exact RepN.toV (ren_rep hh hf _ v p.toN) (ren_ne_own _ (by simp))
theorem cellsRen_own {i i' : Nat} : ∀ {us : List V} {c k n : Nat} {t : Tok} {es : List (List D)}, (cellsRen f i i' us c)[k]? = some (.own t n es) → t = (i', c + k) ∧ us[k]? = some (.own (i, c + k) n es)
  | [], c, k, n, t, es, h => by cases h
  | u :: us, c, 0, n, t, es, h => by
    simp only [cellsRen, List.getElem?_cons_zero, Option.some.injEq] at h
    cases u with
    | own t0 n0 es0 =>
      simp only at h
      split at h
      · rename_i e; obtain rfl := eqTok_iff.1 e; cases h; exact ⟨rfl, rfl⟩
      · cases h
    | _ => exact absurd h (ren_ne_own _ (by simp) _ _ _)
  | u :: us, c, k + 1, n, t, es, h => by
    have := cellsRen_own (us := us) (c := c + 1) (k := k) (by simpa [cellsRen] using h)
    rw [show c + (k + 1) = c + 1 + k by omega]
    exact ⟨this.1, by simpa using this.2⟩
end
end Go.Proofs.YtaddhpeainliiaaGreatDoor.Id
/-! ## IdealN -/
namespace Go.Proofs.YtaddhpeainliiaaGreatDoor.Id
open Go
set_option linter.unusedSectionVars false
set_option linter.unusedVariables false
set_option linter.unusedSimpArgs false
section
variable {I : World → Prop} {B0 : Nat} {M : Nat → Prop} {P : Program} {tt : TT} {X : Given} {n nt : Nat} {x : Aux} {t : Tmps} {b : Boxes} {a : Act} {w : World}
variable [Ds]
def calleeMay (x : Aux) (b : Boxes) (ids : List Nat) (w : World) (k : Nat) : Prop :=
  (∃ q ∈ ids, x.ρ q = k ∧ getB b q ≠ none) ∨ (∃ t ∈ allToks (boxesAt (getB b) ids), ∃ s e, x.z t = some (k, s, e)) ∨ w.heap.size ≤ k
open Classical in
noncomputable def calleeAux (x : Aux) (b : Boxes) (ids : List Nat) : Aux where
  u := x.u
  h := x.h
  ρ := fun i => if base ≤ i then (match ids[i - base]? with | some q => x.ρ q | none => 0) else 0
  z := fun t => if base ≤ t.1 then (match ids[t.1 - base]? with | some q => if (q, t.2) ∈ allToks (boxesAt (getB b) ids) then x.z (q, t.2) else none | none => none) else none
theorem calleeMay_sub (S : WSim I B0 M x b w) {ids : List Nat} {k : Nat} (h : calleeMay x b ids w k) : M k := by
  rcases h with ⟨q, _, rfl, hq⟩ | ⟨t, _, s, e, hz⟩ | h
  · cases hc : getB b q with
    | none => exact absurd hc hq
    | some cs => exact (S.box q cs hc).1
  · exact (S.zone t k s e hz).1
  · exact S.top k h
theorem calleeρ (x : Aux) (b : Boxes) {ids : List Nat} {j q : Nat} (h : ids[j]? = some q) : (calleeAux x b ids).ρ (base + j) = x.ρ q := by
  simp only [calleeAux]
  rw [if_pos (by omega), show base + j - base = j by omega, h]
theorem callee_in (S : WSim I B0 M x b w) {ids : List Nat} (hnd : ids.Nodup) {bx : List (List V)} (hin : boxesIn (getB b) (fun i => (posOf i ids 0).map (base + ·)) ids 0 = some bx) :
    WSim I B0 (calleeMay x b ids w) (calleeAux x b ids) (number base bx 0) w ∧ ∀ u v, RepN x u v → RepN (calleeAux x b ids) (ren (fun i => (posOf i ids 0).map (base + ·)) u) v := by
  obtain ⟨hlen, hspec⟩ := boxesIn_spec hin
  have hf : ∀ q p, (posOf q ids 0).map (base + ·) = some p → (calleeAux x b ids).ρ p = x.ρ q := fun q p h => by
    cases hp : posOf q ids 0 with
    | none => rw [hp] at h; cases h
    | some j =>
      rw [hp] at h
      simp only [Option.map_some, Option.some.injEq] at h
      obtain ⟨j', e, hj⟩ := posOf_some hp
      subst h
      rw [show j = j' by omega]
      exact calleeρ x b hj
  have hget : ∀ i cs, getB (number base bx 0) i = some cs → ∃ j q c0, i = base + j ∧ ids[j]? = some q ∧ getB b q = some c0 ∧ cs = cellsRen (fun i => (posOf i ids 0).map (base + ·)) q (base + j) c0 0 := fun i cs h => by
    rw [getB_number] at h
    split at h
    · obtain ⟨q, c0, h1, h2, h3⟩ := hspec _ cs h
      rw [Nat.add_zero] at h1 h3
      rw [Nat.zero_add] at h3
      exact ⟨i - base, q, c0, by omega, h1, h2, h3⟩
    · cases h
  have hz : ∀ t k s e, (calleeAux x b ids).z t = some (k, s, e) → ∃ j q, t.1 = base + j ∧ ids[j]? = some q ∧ (q, t.2) ∈ allToks (boxesAt (getB b) ids) ∧ x.z (q, t.2) = some (k, s, e) := fun t k s e h => by
    simp only [calleeAux] at h
    split at h
    · split at h
      · rename_i q hq
        split at h
        · exact ⟨t.1 - base, q, by omega, hq, by assumption, h⟩
        · cases h
      · cases h
    · cases h
  refine ⟨⟨S.inv, fun k hk => S.big k (calleeMay_sub S hk), fun k hk => .inr (.inr hk), S.agree, fun i cs hc => ?_, fun i j cs ds hc hd he => ?_, fun t k s e h => ?_, fun t t' k s e s' e' h1 h2 => ?_, fun t k s e i cs h1 h2 => ?_, S.uu, fun i cs hc => ?_⟩, fun u v r => ren_rep (x := x) (x' := calleeAux x b ids) (fun _ _ _ h => h) hf u v r⟩
  rotate_left 5
  · obtain ⟨j, q, c0, rfl, h1, h2, rfl⟩ := hget i cs hc
    rw [calleeρ x b h1]
    exact S.kt q c0 h2
  · obtain ⟨j, q, c0, rfl, h1, h2, rfl⟩ := hget i cs hc
    rw [calleeρ x b h1]
    obtain ⟨hm, hn, ws, ty, hw, hr⟩ := S.box q c0 h2
    refine ⟨.inl ⟨q, List.mem_of_getElem? h1, rfl, by rw [h2]; simp⟩, hn, ws, ty, hw, ?_⟩
    refine cellsRen_rep (x := x) (x' := calleeAux x b ids) (fun _ _ _ h => h) hf (fun _ h => h) hr (fun k n es hk => ?_)
    simp only [calleeAux]
    rw [if_pos (by simp), show base + j - base = j by omega, h1]
    simp only
    have hm : (q, 0 + k) ∈ allToks (boxesAt (getB b) ids) := allToks_mem (boxesAt_mem h2 (List.mem_of_getElem? h1)) (toksOf_mem hk)
    rw [if_pos hm]
  · obtain ⟨j1, q1, c1, rfl, h1, h2, _⟩ := hget i cs hc
    obtain ⟨j2, q2, c2, rfl, h3, h4, _⟩ := hget j ds hd
    rw [calleeρ x b h1, calleeρ x b h3] at he
    have := S.inj q1 q2 c1 c2 h2 h4 he
    subst this
    have e1 := posOf_get (k := 0) hnd h1
    have e2 := posOf_get (k := 0) hnd h3
    rw [e1] at e2
    have := Option.some.inj e2
    omega
  · obtain ⟨j, q, h1, h2, h3, h4⟩ := hz t k s e h
    obtain ⟨g1, g2, g3, g4⟩ := S.zone _ k s e h4
    exact ⟨.inr (.inl ⟨_, h3, s, e, h4⟩), g2, g3, g4⟩
  · obtain ⟨j1, q1, a1, a2, a3, a4⟩ := hz t k s e h1
    obtain ⟨j2, q2, b1, b2, b3, b4⟩ := hz t' k s' e' h2
    have hq := S.zinj _ _ k s e s' e' a4 b4
    simp only [Prod.mk.injEq] at hq
    obtain ⟨rfl, hc⟩ := hq
    have e1 := posOf_get (k := 0) hnd a2
    have e2 := posOf_get (k := 0) hnd b2
    rw [e1] at e2
    have := Option.some.inj e2
    exact Prod.ext (by omega) hc
  · obtain ⟨j1, q1, a1, a2, a3, a4⟩ := hz t k s e h1
    obtain ⟨j2, q2, c2, rfl, b1, b2, _⟩ := hget i cs h2
    rw [calleeρ x b b1]
    exact S.zbox _ k s e q2 c2 a4 b2
open Classical in
noncomputable def backAux (x x2 : Aux) (b : Boxes) (ids : List Nat) (wr : Boxes) : Aux where
  u := x2.u
  h := x2.h
  ρ := x.ρ
  z := fun t => if t ∈ allToks wr then (match posOf t.1 ids 0 with | some j => x2.z (base + j, t.2) | none => none) else if t ∈ allToks (boxesAt (getB b) ids) then none else x.z t
theorem callee_out (S : WSim I B0 M x b w) (hI : Stable I B0) {ids : List Nat} (hnd : ids.Nodup) {bx : List (List V)} (hin : boxesIn (getB b) (fun i => (posOf i ids 0).map (base + ·)) ids 0 = some bx) {x2 : Aux} {w2 : World} {bx' : List (List V)} {wr : Boxes}
    (hext : Ext (calleeMay x b ids w) (calleeAux x b ids) w x2 w2) (S2 : WSim I B0 (calleeMay x b ids w) x2 (number base bx' 0) w2) (hout : boxesOut ids ids 0 bx' = some wr) {u : V} {v : Value} (hb : boxIds u = []) (hr : RepN x2 u v) :
    EffOK I B0 M x b { v := u.plain, wr := wr, scr := catK (allToks (boxesAt (getB b) ids)) (allToks wr) } w v (backAux x x2 b ids wr) w2 := by
  obtain ⟨hol, hospec, hocov⟩ := boxesOut_spec hout
  have hdef := boxesIn_some hin
  have hsubM : ∀ k, ¬ M k → ¬ calleeMay x b ids w k := fun k hk h => hk (calleeMay_sub S h)
  have hzs : ∀ t, t ∉ catK (allToks (boxesAt (getB b) ids)) (allToks wr) → (backAux x x2 b ids wr).z t = x.z t := fun t ht => by
    simp only [catK_mem, not_or] at ht
    simp only [backAux]
    rw [if_neg ht.2, if_neg ht.1]
  have hzc : ∀ t k s e, (backAux x x2 b ids wr).z t = some (k, s, e) → (∃ j, ids[j]? = some t.1 ∧ x2.z (base + j, t.2) = some (k, s, e)) ∨ (t ∉ allToks (boxesAt (getB b) ids) ∧ x.z t = some (k, s, e)) := fun t k s e h => by
    simp only [backAux] at h
    split at h
    · split at h
      · rename_i j hj
        obtain ⟨j', e1, e2⟩ := posOf_some hj
        exact .inl ⟨j, by rw [show j = j' by omega]; exact e2, h⟩
      · cases h
    · split at h
      · cases h
      · exact .inr ⟨by assumption, h⟩
  have hρ2 : ∀ j q, ids[j]? = some q → x2.ρ (base + j) = x.ρ q := fun j q h => by rw [hext.rho _ (by omega)]; exact calleeρ x b h
  have hnotM : ∀ t k s e, t ∉ allToks (boxesAt (getB b) ids) → x.z t = some (k, s, e) → ¬ calleeMay x b ids w k := fun t k s e ht hz hm => by
    rcases hm with ⟨q, _, hq, hc⟩ | ⟨t', h1, s', e', h2⟩ | h
    · cases h4 : getB b q with
      | none => exact hc h4
      | some cs => exact S.zbox t k s e q cs hz h4 hq
    · have := S.zinj _ _ k s e s' e' hz h2
      subst this; exact ht h1
    · have := S.zlt hz; omega
  have hboxM : ∀ i cs, getB b i = some cs → i ∉ ids → ¬ calleeMay x b ids w (x.ρ i) := fun i cs hc hi hm => by
    rcases hm with ⟨q, hq, he, hn⟩ | ⟨t', h1, s', e', h2⟩ | h
    · cases h4 : getB b q with
      | none => exact hn h4
      | some ds => have := S.inj q i ds cs h4 hc he; subst this; exact hi hq
    · exact S.zbox t' _ s' e' i cs h2 hc rfl
    · have := S.lt hc; omega
  have hin' : ∀ i, (getB wr i ≠ none ∨ getB b i ≠ none) → ∃ c, getB b i = some c := fun i hi => by
    cases h4 : getB b i with
    | some c => exact ⟨c, rfl⟩
    | none =>
      rcases hi with hi | hi
      · cases h5 : getB wr i with
        | none => exact absurd h5 hi
        | some cs =>
          obtain ⟨_, j, c', h6, _⟩ := hospec i cs h5
          obtain ⟨c, hc⟩ := hdef i (List.mem_of_getElem? h6)
          rw [hc] at h4; cases h4
      · exact absurd h4 hi
  have hnum : ∀ j q, ids[j]? = some q → ∃ c', getB (number base bx' 0) (base + j) = some c' := fun j q h => by
    have hj : j < bx'.length := by rw [hol]; exact (List.getElem?_eq_some_iff.1 h).1
    refine ⟨bx'[j], ?_⟩
    rw [getB_number, if_pos (by omega), show base + j - (base + 0) = j by omega]
    exact List.getElem?_eq_getElem hj
  refine ⟨hext.sub, fun _ _ => rfl, hzs, fun b1 hb1 => ?_, ⟨hext.os, hext.tape, hext.output, hext.size, fun k hk => hext.blk k (hsubM k hk), hext.sub, fun k hk => hext.out k (hsubM k hk), fun _ _ => rfl, hext.u⟩, ?_, hext.u⟩
  · refine S.step (x' := backAux x x2 b ids wr) hI hb1 hext.sub (fun _ _ => rfl) hzs hext.size (fun k hk => hext.blk k (hsubM k hk)) S2.agree (fun i cs hn hc => ?_) (fun i cs hc => ?_) (fun i j hi hj he => ?_) (fun t k s e h => ?_) (fun t t' k s e s' e' h1 h2 => ?_) (fun t k s e i h1 hi => ?_) S2.uu hext.u (fun i cs hc ws2 t2 f2 hh2 => ?_)
    rotate_left 6
    · obtain ⟨hmem, j, c', h1, h2, rfl⟩ := hospec i cs hc
      have hg : getB (number base bx' 0) (base + j) = some c' := by
        rw [getB_number, if_pos (by omega), show base + j - (base + 0) = j by omega]; exact h2
      have hh3 : w2.heap[x.ρ i]? = some (.cells ws2 t2 f2) := hh2
      rw [← hρ2 j i h1] at hh3
      exact S2.kt _ c' hg _ _ _ hh3
    · have hi := hocov i hn
      have hm := hboxM i cs hc hi
      refine ⟨by simp, hext.blk _ hm, fun o => ?_⟩
      have : x2.h (x.ρ i) = x.h (x.ρ i) := hext.out _ hm
      show x2.h (x.ρ i) o = none
      rw [this]; exact (S.box i cs hc).2.1 o
    · obtain ⟨hmem, j, c', h1, h2, rfl⟩ := hospec i cs hc
      have hg : getB (number base bx' 0) (base + j) = some c' := by
        rw [getB_number, if_pos (by omega), show base + j - (base + 0) = j by omega]; exact h2
      obtain ⟨g1, g2, ws, ty, g3, g4⟩ := S2.box _ c' hg
      rw [hρ2 j i h1] at g1 g2 g3
      refine ⟨calleeMay_sub S g1, g2, ws, ty, g3, ?_⟩
      rw [Nat.zero_add]
      refine cellsRen_rep (x := x2) (x' := backAux x x2 b ids wr) (fun _ _ _ h => h) (fun q p hq => ?_) (fun _ h => h) g4 (fun k n es hk => ?_)
      · simp only [unb] at hq
        split at hq
        · rename_i hle
          have hle := Nat.le_of_ble_eq_true hle
          show x.ρ p = x2.ρ q
          have e0 : base + (q - base) = q := Nat.add_sub_cancel' hle
          rw [← hρ2 (q - base) p hq, e0]
        · cases hq
      · have hc' : (cellsRen (unb ids) (base + (0 + j)) i c' 0)[k]? = some (.own (i, 0 + k) n es) := by
          have : ∀ (us : List V) (c : Nat) (k : Nat), us[k]? = some (.own (base + j, c + k) n es) → (cellsRen (unb ids) (base + j) i us c)[k]? = some (.own (i, c + k) n es) := by
            intro us
            induction us with
            | nil => intro c k h; cases h
            | cons u us ih =>
              intro c k h
              cases k with
              | zero =>
                simp at h; subst h
                have : eqTok (base + j, c) (base + j, c) = true := eqTok_iff.2 rfl
                simp [cellsRen, this]
              | succ k =>
                have := ih (c + 1) k (by rw [show c + 1 + k = c + (k + 1) by omega]; simpa using h)
                rw [show c + 1 + k = c + (k + 1) by omega] at this
                simpa [cellsRen] using this
          rw [Nat.zero_add j]
          exact this c' 0 k hk
        have hm : (i, 0 + k) ∈ allToks wr := allToks_mem hmem (toksOf_mem hc')
        simp only [backAux]
        rw [if_pos hm, posOf_get (k := 0) hnd h1]
        simp
    · obtain ⟨c1, h1⟩ := hin' i hi
      obtain ⟨c2, h2⟩ := hin' j hj
      exact S.inj i j c1 c2 h1 h2 he
    · rcases hzc t k s e h with ⟨j, h1, h2⟩ | ⟨h1, h2⟩
      · obtain ⟨g1, g2, g3, g4⟩ := S2.zone _ k s e h2
        exact ⟨calleeMay_sub S g1, g2, g3, g4⟩
      · obtain ⟨g1, g2, g3, ws, ty, g4, g5⟩ := S.zone _ k s e h2
        have hm := hnotM t k s e h1 h2
        refine ⟨g1, g2, fun o ho => ?_, ws, ty, by rw [hext.blk _ hm]; exact g4, g5⟩
        have : x2.h k = x.h k := hext.out _ hm
        show x2.h k o = none
        rw [this]; exact g3 o ho
    · rcases hzc t k s e h1 with ⟨j, a1, a2⟩ | ⟨a1, a2⟩ <;> rcases hzc t' k s' e' h2 with ⟨j', b1, b2⟩ | ⟨b1, b2⟩
      · have := S2.zinj _ _ k s e s' e' a2 b2
        simp only [Prod.mk.injEq] at this
        obtain ⟨h3, h4⟩ := this
        have hj : j = j' := by omega
        subst hj
        rw [a1] at b1
        exact Prod.ext (Option.some.inj b1) h4
      · exact absurd (S2.zone _ k s e a2).1 (hnotM t' k s' e' b1 b2)
      · exact absurd (S2.zone _ k s' e' b2).1 (hnotM t k s e a1 a2)
      · exact S.zinj _ _ k s e s' e' a2 b2
    · obtain ⟨c1, hc1⟩ := hin' i hi
      show x.ρ i ≠ k
      rcases hzc t k s e h1 with ⟨j, a1, a2⟩ | ⟨a1, a2⟩
      · by_cases hi' : i ∈ ids
        · obtain ⟨j2, hj2, hij⟩ := List.mem_iff_getElem.1 hi'
          have hg : ids[j2]? = some i := by rw [← hij]; exact List.getElem?_eq_getElem hj2
          obtain ⟨c', hc'⟩ := hnum j2 i hg
          rw [← hρ2 j2 i hg]
          exact S2.zbox _ k s e _ c' a2 hc'
        · intro e1
          exact hboxM i c1 hc1 hi' (e1 ▸ (S2.zone _ k s e a2).1)
      · exact S.zbox _ k s e i c1 a2 hc1
  · exact (RepN.mono (x := x2) (x' := backAux x x2 b ids wr) (fun _ _ _ h => h) u v (fun i hi => by rw [noBox_of hb i] at hi; cases hi) hr).plainV
end
end Go.Proofs.YtaddhpeainliiaaGreatDoor.Id
/-! ## IdealO -/
namespace Go.Proofs.YtaddhpeainliiaaGreatDoor.Id
open Go
set_option linter.unusedSectionVars false
set_option linter.unusedVariables false
set_option linter.unusedSimpArgs false
/-- what is promised of a call -/
def CallOK (P : Program) (I : World → Prop) (B0 : Nat) (f : FuncId) (args : List V) (bx : List (List V)) (o : Out) : Prop :=
  ∀ (M : Nat → Prop) (x : Aux) (w : World) (vs : Array Value), RepVs x args vs.toList → WSim I B0 M x (number base bx 0) w →
    Calls P f vs w fun e w' => ∃ x', Ext M x w x' w' ∧ match o with
      | .ret v bx' => ∃ rv, e = .returned rv ∧ RepN x' v rv ∧ WSim I B0 M x' (number base bx' 0) w'
      | .pan v bx' => ∃ rv, e = .panicked [{ v := rv, recovered := false }] ∧ RepN x' v rv ∧ WSim I B0 M x' (number base bx' 0) w'
theorem enters_ok {P : Program} {f : FuncId} {fn : Func} (hf : P.funcs[f]? = some fn) (hname : (fn.name == "runtime.NumGoroutine") = false) (hb : fn.body.isSome = true) (args : Array Value) (w : World) : (callFunc f args).run P w = .ok (.enter f args) w := by
  have hb' : fn.body.isNone = false := by cases h : fn.body <;> simp_all
  unfold callFunc
  rw [Sem.run_bind]
  show Result.andThen (.ok P w) _ = _
  rw [Result.andThen_ok, hf]
  simp only [hname, hb', Bool.false_eq_true, if_false]
  rfl
def Enters (P : Program) (f : FuncId) : Prop := ∃ fn, P.funcs[f]? = some fn ∧ (fn.name == "runtime.NumGoroutine") = false ∧ fn.body.isSome = true
def GivenOK (P : Program) (X : Given) (I : World → Prop) (B0 : Nat) : Prop := ∀ f args bx o, X f args bx o → Enters P f ∧ CallOK P I B0 f args bx o
section
variable {I : World → Prop} {B0 : Nat} {M : Nat → Prop} {P : Program} {tt : TT} {X : Given} {n nt : Nat} {x : Aux} {t : Tmps} {b : Boxes} {a : Act} {w : World}
variable [Ds]
variable {dst : Option Tmp} {ty : TypeId} {pos : String} {after : Array Edge} {guard : Option (Nat × Bool)} {r : Res}
/-- the calls of a tree of this height are as promised -/
def Below (P : Program) (tt : TT) (X : Given) (I : World → Prop) (B0 n : Nat) : Prop := ∀ m, m < n → ∀ G f fn args bx o, P.funcs[f]? = some fn → (fn.name == "runtime.NumGoroutine") = false → DenN P tt X m Out (evBody tt G fn args bx) o → CallOK P I B0 f args bx o
theorem evBody_body {G : Option (List Nat)} {fn : Func} {args : List V} {bx : List (List V)} {o : Out} (h : DenN P tt X n Out (evBody tt G fn args bx) o) : fn.body.isSome = true := by
  unfold evBody at h
  split at h
  · rename_i e; rw [e]; rfl
  · exact (den_fail h).elim
theorem den_call {α : Type} {g : FuncId} {args : List V} {bx : List (List V)} {k : Out → T α} {q : α} (hX : GivenOK P X I B0) (hB : Below P tt X I B0 n) (h : DenN P tt X n α (.call g args bx k) q) : ∃ o, Enters P g ∧ CallOK P I B0 g args bx o ∧ DenN P tt X n α (k o) q := by
  cases h with
  | call h1 h2 h3 h4 => exact ⟨_, ⟨_, h1, h2, evBody_body h3⟩, hB _ (by omega) _ _ _ _ _ _ h1 h2 h3, h4.up _ (by omega)⟩
  | ext h1 h2 => obtain ⟨g1, g2⟩ := hX _ _ _ _ h1; exact ⟨_, g1, g2, h2⟩
theorem normVs_rep : ∀ {us : List V} {l : List Value}, RepNs x us l → RepVs x (normVs us) l
  | [], l, r => r
  | u :: us, l, ⟨v, vs, e, p, q⟩ => ⟨v, vs, e, RepN.toV p.norm (norm_ne_own u), normVs_rep q⟩
/-- a function's call, taken apart -/
theorem evCall_ok (hI : Stable I B0) (hX : GivenOK P X I B0) (hB : Below P tt X I B0 n) (S : WSim I B0 M x b w) {g : FuncId} {args : List V} {vs : Array Value} {pv : Option V} {e : Eff} (hargs : RepNs x args vs.toList) (h : DenN P tt X n Res (evCall g args (getB b)) (pv, e)) :
    Enters P g ∧ Calls P g vs w fun en w' => (pv = none → ∃ rv x', en = .returned rv ∧ EffOK I B0 M x b e w rv x' w') ∧ ∀ u, pv = some u → ∃ rv x', en = .panicked [{ v := rv, recovered := false }] ∧ RepN x' u rv ∧ EffOK I B0 M x b e w undef x' w' := by
  unfold evCall at h
  rw [forceVs_eq, forceNs_eq, forceNs_eq, forceNs_eq] at h
  generalize hids : addAll (addAll (addAll [] (boxIdss args)) (cellIds (getB b) (addAll [] (boxIdss args)))) (cellIds (getB b) (addAll (addAll [] (boxIdss args)) (cellIds (getB b) (addAll [] (boxIdss args))))) = ids at h
  have hnd : ids.Nodup := by rw [← hids]; exact addAll_nodup (addAll_nodup (addAll_nodup List.nodup_nil))
  split at h
  · rename_i bx _ hin
    rw [forceBs_eq, forceVs_eq] at h
    obtain ⟨o, hen, hco, h⟩ := den_call hX hB h
    obtain ⟨S2, hren⟩ := callee_in S hnd hin
    have hra : RepVs (calleeAux x b ids) (normVs (rens (fun i => (posOf i ids 0).map (base + ·)) args)) vs.toList := by
      refine normVs_rep ?_
      have : ∀ (us : List V) (l : List Value), RepNs x us l → RepNs (calleeAux x b ids) (rens (fun i => (posOf i ids 0).map (base + ·)) us) l := by
        intro us
        induction us with
        | nil => intro l r; exact r
        | cons u us ih => intro l ⟨v, vs, e, p, q⟩; exact ⟨v, vs, e, hren u v p, ih vs q⟩
      exact this _ _ hargs
    refine ⟨hen, (hco _ _ w vs hra S2).mono fun en w' ⟨x', hext, hm⟩ => ?_⟩
    cases o with
    | ret v bx' =>
      simp only at h hm
      obtain ⟨rv, rfl, hr, S3⟩ := hm
      split at h
      · rename_i wr hout hbx
        have := den_leaf h
        simp only [Prod.mk.injEq] at this
        obtain ⟨rfl, rfl⟩ := this
        exact ⟨fun _ => ⟨rv, _, rfl, callee_out S hI hnd hin hext S3 hout hbx hr⟩, fun u hu => by cases hu⟩
      · exact (den_fail h).elim
    | pan v bx' =>
      simp only at h hm
      obtain ⟨rv, rfl, hr, S3⟩ := hm
      split at h
      · rename_i wr hout hbx
        have := den_leaf h
        simp only [Prod.mk.injEq] at this
        obtain ⟨rfl, rfl⟩ := this
        refine ⟨fun hu => (by cases hu), fun u hu => ?_⟩
        cases hu
        have hE := callee_out S hI hnd hin hext S3 hout (u := .undef) (v := undef) rfl trivial
        exact ⟨rv, backAux x x' b ids wr, rfl, RepN.mono (x := x') (x' := backAux x x' b ids wr) (fun _ _ _ h => h) v rv (fun i hi => by rw [noBox_of hbx i] at hi; cases hi) hr, hE⟩
      · exact (den_fail h).elim
  · exact (den_fail h).elim
theorem RepNs.app {us ws : List V} : ∀ {l m : List Value}, RepNs x us l → RepNs x ws m → RepNs x (us ++ ws) (l ++ m) := by
  induction us with
  | nil => intro l m r q; have : l = [] := r; subst this; exact q
  | cons u us ih => intro l m ⟨v, vs, e, p, r⟩ q; subst e; exact ⟨v, vs ++ m, rfl, p, ih r q⟩
theorem fixArgs_rep : ∀ {us : List V} {ts : List TypeId} {l : List Value}, RepVs x us l → RepVs x (fixArgs tt us ts) l
  | [], ts, l, r => by cases ts <;> exact r
  | u :: us, [], l, r => r
  | u :: us, t :: ts, l, ⟨v, vs, e, p, q⟩ => ⟨v, vs, e, fixnil_rep t p, fixArgs_rep q⟩
theorem RepVs.toNs : ∀ {us : List V} {l : List Value}, RepVs x us l → RepNs x us l
  | [], l, r => r
  | u :: us, l, ⟨v, vs, e, p, q⟩ => ⟨v, vs, e, p.toN, q.toNs⟩
theorem evs_rep (S : Sim I B0 M nt x t b a w) : ∀ l : List Operand, RepVs x (l.map (St.ev ⟨t, b⟩)) (l.map a.eval)
  | [] => rfl
  | y :: l => ⟨_, _, rfl, S.ev y, evs_rep S l⟩
/-- one operation -/
theorem evOp_ok (htt : TTok P tt) (hI : Stable I B0) (hX : GivenOK P X I B0) (hB : Below P tt X I B0 n) (hnb : nt ≤ base) {o : Oper} (hd : ∀ d, o.dst = some d → d < nt) (S : Sim I B0 M nt x t b a w) {pv : Option V} {σ : St} (h : DenN P tt X n (Option V × St) (evOp tt o t b) (pv, σ))
    {K : Act → World → Prop} {Q : Exit → Act → World → Prop} (hK : pv = none → ∀ a' w' x', Sim I B0 M nt x' σ.t σ.b a' w' → Ext M x w x' w' → K a' w')
    (hQ : ∀ u, pv = some u → ∀ rv w' x', RepN x' u rv → Sim I B0 M nt x' σ.t σ.b a w' → Ext M x w x' w' → Q (.panic [{ v := rv, recovered := false }]) a w') : o.wp P a w K Q := by
  unfold evOp at h
  obtain ⟨⟨qv, e⟩, h1, h2⟩ := den_bind h
  have hdb : ∀ d, o.dst = some d → d < base := fun d hd' => Nat.lt_of_lt_of_le (hd d hd') hnb
  -- what is known of the state behind
  have hst : (qv = none → pv = none ∧ ∃ t1 b1, σ = ⟨putT o.dst e.v t1, catB e.wr b1⟩ ∧ (∀ i, getT t1 i = cleanV e.scr e.drp (getT t i)) ∧ ∀ i, getB b1 i = (getB b i).map (cleanVs e.scr e.drp)) ∧
      (∀ u, qv = some u → pv = some u ∧ ∃ t1 b1, σ = ⟨t1, catB e.wr b1⟩ ∧ (∀ i, getT t1 i = cleanV e.scr e.drp (getT t i)) ∧ ∀ i, getB b1 i = (getB b i).map (cleanVs e.scr e.drp)) := by
    cases qv with
    | none =>
      simp only at h2
      obtain ⟨t1, b1, g1, g2, g3⟩ := applyE_eq t b o.dst e (fun t b => (T.leaf (none, (⟨t, b⟩ : St)) : T (Option V × St)))
      rw [g1] at h2
      have := den_leaf h2
      simp only [Prod.mk.injEq] at this
      exact ⟨fun _ => ⟨this.1.symm, t1, b1, this.2.symm, g2, g3⟩, fun u hu => by cases hu⟩
    | some u =>
      simp only at h2
      obtain ⟨t1, b1, g1, g2, g3⟩ := applyE_eq t b none { e with v := .undef } (fun t b => (T.leaf (some u, (⟨t, b⟩ : St)) : T (Option V × St)))
      rw [g1] at h2
      have := den_leaf h2
      simp only [Prod.mk.injEq] at this
      exact ⟨fun hu => (by cases hu), fun u' hu => (by cases hu; exact ⟨this.1.symm, t1, b1, this.2.symm, g2, g3⟩)⟩
  have done : ∀ v x' w', qv = none → EffOK I B0 M x b e w v x' w' → K (a.put o.dst v) w' := fun v x' w' hq hE => by
    obtain ⟨hp, t1, b1, rfl, g2, g3⟩ := hst.1 hq
    exact hK hp _ _ x' (S.eff g2 hE.sub hE.ρ hE.z hE.u hd (fun _ => hE.rv) (hE.ws b1 g3)) hE.ext
  have opok : OpOK I B0 M P o a x b w (qv, e) → o.wp P a w K Q := fun hop => by
    cases hq : qv with
    | none =>
      obtain ⟨v, x', w', hg, hE⟩ := hop.1 hq
      exact hg.wp (done v x' w' hq hE)
    | some u =>
      obtain ⟨hp, t1, b1, rfl, g2, g3⟩ := hst.2 u hq
      obtain ⟨e1, e2, e3, v, hr, hv⟩ := hop.2 u hq
      unfold Oper.wp
      rw [hr]
      simp only at e1 e2 e3
      refine hQ u hp v w x hv ⟨fun i => by show RepV x (getT t1 i) _; rw [g2, e2, e3]; exact S.tm i, S.sz, S.df, ?_⟩ (Ext.refl _ _)
      rw [e1]
      exact S.ws.same (fun i => by
        show getB b1 i = getB b i
        rw [g3, e2, e3]
        cases getB b i with
        | none => rfl
        | some cs => exact congrArg some (cleanVs_nil cs))
  obtain ⟨dst, op, ty, pos, after, guard⟩ := o
  have fail : DenN P tt X n Res .fail (qv, e) → Oper.wp P ⟨dst, op, ty, pos, after, guard⟩ a w K Q := fun h => (den_fail h).elim
  cases op with
  | move y => exact opok (op_move S y h1)
  | assign y => exact opok (op_assign S y h1)
  | pick c y z => exact opok (op_pick S c y z h1)
  | alloc tq => exact opok (op_alloc htt hdb hI S tq h1)
  | box tq y => exact opok (op_box htt hdb hI S tq y h1)
  | build tq ps => exact opok (op_build htt S tq ps h1)
  | buildSlice tq len ps => exact opok (op_buildSlice htt hI S tq len ps h1)
  | load tq y => exact opok (op_load htt S tq y h1)
  | store tq y z => exact opok (op_store htt hI S tq y z h1)
  | nilCheck y => exact opok (op_nilCheck S y h1)
  | binOp op tq y z yt => exact opok (op_binOp htt S op tq yt y z h1)
  | unOp op tq y => exact opok (op_unOp S op tq y h1)
  | convert s tq y => exact opok (op_convert htt hI S s tq y h1)
  | makeInterface tq y => exact opok (op_makeInterface htt S tq y h1)
  | makeFunc fn ags bs =>
    cases fn with
    | func f => exact opok (op_makeFunc S f ags bs h1)
    | _ => exact fail h1
  | slice tq y lo hi mx =>
    cases mx with
    | none => exact opok (op_slice htt S tq y lo hi h1)
    | some m => exact fail h1
  | fieldAddr tq y f => exact opok (op_fieldAddr htt S tq y f h1)
  | field tq y f => exact opok (op_field htt S tq y f h1)
  | indexAddr tq y z => exact opok (op_indexAddr htt S tq y z h1)
  | index tq y z => exact opok (op_index htt S tq y z h1)
  | extract y i => exact opok (op_extract S y i h1)
  | panic y =>
    refine opok ?_
    simp only [opEff] at h1
    have hy := S.ev y
    split at h1
    · rename_i tq u e1
      rw [e1] at hy
      obtain ⟨v, hv, hr⟩ := hy
      have := den_leaf h1
      simp only [Prod.mk.injEq] at this
      obtain ⟨rfl, rfl⟩ := this
      refine ⟨fun hu => (by cases hu), fun u' hu => ?_⟩
      cases hu
      exact ⟨rfl, rfl, rfl, _, by simp [execOp, hv, Instr.panic, goPanic, Sem.run], ⟨v, rfl, hr⟩⟩
    · exact (den_fail h1).elim
  | call c =>
    obtain ⟨callee, args, ts⟩ := c
    cases callee with
    | builtin bi => exact opok (op_builtin htt hI S bi args ts h1)
    | invoke _ _ => exact fail h1
    | value f =>
      simp only [opEff] at h1
      have hf := S.ev f
      split at h1
      · rename_i g us ws e1
        rw [e1] at hf
        obtain ⟨ags, bs, hv, hus, hws⟩ := hf
        have hargs : RepNs x (us ++ fixArgs tt (args.toList.map (St.ev ⟨t, b⟩)) ts.toList ++ ws) (ags ++ args.map a.eval ++ bs).toList := by
          rw [Array.toList_append, Array.toList_append, Array.toList_map]
          exact (hus.app (fixArgs_rep (evs_rep S _)).toNs).app hws
        obtain ⟨⟨fn, hfn, hname, hbody⟩, hc⟩ := evCall_ok hI hX hB S.ws hargs h1
        have hrun : (execOp a.eval ⟨dst, .call ⟨.value f, args, ts⟩, ty, pos, after, guard⟩).run P w = .ok (.enter g (ags ++ args.map a.eval ++ bs)) w := by
          have he := enters_ok hfn hname hbody (ags ++ args.map a.eval ++ bs) w
          unfold execOp
          simp only [resolve, Deferred.ofValue, hv]
          rw [Sem.run_bind]
          show Result.andThen (.ok _ w) _ = _
          rw [Result.andThen_ok]
          simpa [invoke] using he
        unfold Oper.wp
        rw [hrun, Oper.upon_enter]
        refine hc.mono fun en w' ⟨g1, g2⟩ => ?_
        cases hq : qv with
        | none =>
          obtain ⟨rv, x', rfl, hE⟩ := g1 hq
          exact done rv x' w' hq hE
        | some u =>
          obtain ⟨rv, x', rfl, hr, hE⟩ := g2 u hq
          obtain ⟨hp, t1, b1, rfl, g2, g3⟩ := hst.2 u hq
          exact hQ u hp rv w' x' hr (Sim.eff (dst := none) (u := .undef) (v := undef) S g2 hE.sub hE.ρ hE.z hE.u (fun d hd => by cases hd) (fun h => absurd rfl h) (hE.ws b1 g3)) hE.ext
      · exact fail h1
  | _ => exact fail h1
end
end Go.Proofs.YtaddhpeainliiaaGreatDoor.Id
