/- Texts of this repo, bundled: IdealP, IdealR, IdealS, IdealU, IdealV, IdealT, IdealQ, IdealW, Tt, IdBase, IdWp, DenGap, DenByte, DenQuo, DenQuoL, DenQuoR, DenGapR, DenKey, DenSign, DenNum, DenTok, DenTokR, DenNext. -/
import Derived.Test.YtacfbgfphkfobaaGreatDoorBunParseRightsa
import Derived.LoopN
import Derived.Laws.Sem
import Derived.Test.YtacfbgfphkfobaaGreatDoorChecked
import Derived.KernelRfl
import Derived.Lib.Strings
import Derived.Lib.Bytealg
import Derived.Lib.Join
import Derived.Lib.ParseIntB
import Derived.Lib.ItoaNum
/-! ## IdealP -/
namespace Go.Proofs.YtacfbgfphkfobaaGreatDoor.Id
open Go
set_option linter.unusedSectionVars false
set_option linter.unusedVariables false
set_option linter.unusedSimpArgs false
section
variable {I : World → Prop} {B0 : Nat} {M : Nat → Prop} {P : Program} {tt : TT} {X : Given} {n nt : Nat} {x : Aux} {t : Tmps} {b : Boxes} {a : Act} {w : World}
variable [Ds]
/-- how an exit of the model stands to one of the ideal machine -/
def ExM (x : Aux) : Ex → Exit → Prop
  | .normal, e => e = .normal
  | .exit id, e => e = .exit id
  | .ret, e => e = .ret
  | .pan v, e => ∃ rv, e = .panic [{ v := rv, recovered := false }] ∧ RepN x v rv
/-- behind a stretch -/
def Behind [Ds] (I : World → Prop) (B0 : Nat) (M : Nat → Prop) (nt : Nat) (x : Aux) (w : World) (ex : Ex) (σ : St) (e : Exit) (a' : Act) (w' : World) : Prop :=
  ∃ x', ExM x' ex e ∧ Ext M x w x' w' ∧ a'.defers = Ds.l ∧ WSim I B0 M x' σ.b w' ∧ (((∀ v, ex ≠ .pan v) ∨ Ds.nd = true) → Sim I B0 M nt x' σ.t σ.b a' w')
theorem Behind.of_ext {x' : Aux} {w' : World} (h : Ext M x w x' w') {ex : Ex} {σ : St} {e : Exit} {a2 : Act} {w2 : World} (g : Behind I B0 M nt x' w' ex σ e a2 w2) : Behind I B0 M nt x w ex σ e a2 w2 := by
  obtain ⟨x2, g1, g2, g3, g4, g5⟩ := g
  exact ⟨x2, g1, h.trans g2, g3, g4, g5⟩
theorem Sim.know (S : Sim I B0 M nt x t b a w) {d : Nat} {u : V} (h : RepV x u (a.tmps.getD d undef)) : Sim I B0 M nt x ((d, u) :: t) b a w :=
  ⟨fun i => by
    rw [getT_put]
    by_cases e : d = i
    · subst e; rw [if_pos rfl]; exact h
    · rw [if_neg e]; exact S.tm i, S.sz, S.df, S.ws⟩
theorem Sim.pass (S : Sim I B0 M nt x t b a w) {dst : Option Nat} (hd : ∀ d, dst = some d → d < nt) : Sim I B0 M nt x (putT dst .skip t) b (a.put dst undef) w :=
  Sim.eff (scr := []) (drp := []) S (fun i => rfl) (fun _ _ _ h => h) (fun _ _ => rfl) (fun _ _ => rfl) hd (fun _ => (rfl : undef = undef)) S.ws
def asB : Value → Option Bool
  | .bool c => some c
  | _ => none
theorem yielded_of {ops : Array Oper} {j d : Nat} (h : (ops[j]?).bind (·.dst) = some d) {v : Value} (hv : a.tmps.getD d undef = v) : yielded ops a.tmps j = asB v := by
  unfold yielded
  rw [h]
  simp only [Option.bind_some]
  cases hq : a.tmps[d]? with
  | none =>
    have : v = undef := by rw [← hv]; simp [Array.getD_eq_getD_getElem?, hq]
    subst this; rfl
  | some u =>
    have : u = v := by rw [← hv]; simp [Array.getD_eq_getD_getElem?, hq]
    subst this
    cases u <;> rfl
/-- one operation, if it is wanted -/
theorem evGuard_ok (htt : TTok P tt) (hI : Stable I B0) (hX : GivenOK P X I B0) (hB : Below P tt X I B0 n) (hnb : nt ≤ base) {ops : Array Oper} {o : Oper} (hd : ∀ d, o.dst = some d → d < nt) (S : Sim I B0 M nt x t b a w) {pv : Option V} {σ : St} (h : DenN P tt X n (Option V × St) (evGuard tt ops o t b) (pv, σ))
    {K : Act → World → Prop} {Q : Exit → Act → World → Prop} (hK : pv = none → ∀ a' w' x', Sim I B0 M nt x' σ.t σ.b a' w' → Ext M x w x' w' → K a' w')
    (hQ : ∀ u, pv = some u → ∀ rv w' x', RepN x' u rv → Sim I B0 M nt x' σ.t σ.b a w' → Ext M x w x' w' → Q (.panic [{ v := rv, recovered := false }]) a w') :
    if Region.wanted o (yielded ops a.tmps) then o.wp P a w K Q ∨ (o.asks P a w ∧ LetsOut Q) else K (a.put o.dst undef) w := by
  have run : ∀ {t : Tmps}, Sim I B0 M nt x t b a w → DenN P tt X n (Option V × St) (evOp tt o t b) (pv, σ) → o.wp P a w K Q := fun S h => evOp_ok htt hI hX hB hnb hd S h hK hQ
  have pass : ∀ {t : Tmps}, Sim I B0 M nt x t b a w → DenN P tt X n (Option V × St) (.leaf (none, ⟨putT o.dst .skip t, b⟩)) (pv, σ) → K (a.put o.dst undef) w := fun S h => by
    have := den_leaf h
    simp only [Prod.mk.injEq] at this
    obtain ⟨rfl, rfl⟩ := this
    exact hK rfl _ _ x (S.pass hd) (Ext.refl _ _)
  unfold evGuard at h
  split at h
  · rename_i e
    have : Region.wanted o (yielded ops a.tmps) = true := by simp [Region.wanted, e]
    rw [if_pos this]
    exact .inl (run S h)
  · rename_i j want e
    split at h
    · exact (den_fail h).elim
    · rename_i d ed
      have hy : ∀ v, a.tmps.getD d undef = v → yielded ops a.tmps j = asB v := fun v hv => yielded_of ed hv
      have hwant : ∀ c, yielded ops a.tmps j = some c → Region.wanted o (yielded ops a.tmps) = (c == want) := fun c hc => by
        simp only [Region.wanted, e, hc]
        cases c <;> cases want <;> rfl
      have hno : yielded ops a.tmps j = none → Region.wanted o (yielded ops a.tmps) = false := fun hc => by simp [Region.wanted, e, hc]
      have hr := S.tm d
      have yes : ∀ {t : Tmps}, yielded ops a.tmps j = some want → Sim I B0 M nt x t b a w → DenN P tt X n (Option V × St) (evOp tt o t b) (pv, σ) → (if Region.wanted o (yielded ops a.tmps) then o.wp P a w K Q ∨ (o.asks P a w ∧ LetsOut Q) else K (a.put o.dst undef) w) := fun hc S h => by
        rw [if_pos (by rw [hwant _ hc]; simp)]; exact .inl (run S h)
      have no : ∀ {t : Tmps} (c : Bool), yielded ops a.tmps j = some c → c ≠ want → Sim I B0 M nt x t b a w → DenN P tt X n (Option V × St) (.leaf (none, ⟨putT o.dst .skip t, b⟩)) (pv, σ) → (if Region.wanted o (yielded ops a.tmps) then o.wp P a w K Q ∨ (o.asks P a w ∧ LetsOut Q) else K (a.put o.dst undef) w) := fun c hc hne S h => by
        rw [if_neg (by rw [hwant _ hc]; simpa using hne)]; exact pass S h
      split at h
      · rename_i e1; rw [e1] at hr; exact yes (hy _ hr) S h
      · rename_i e1; rw [e1] at hr; exact yes (hy _ hr) S h
      · rename_i e1; rw [e1] at hr; exact no false (hy _ hr) (by simp) S h
      · rename_i e1; rw [e1] at hr; exact no true (hy _ hr) (by simp) S h
      · rename_i e1; rw [e1] at hr
        have hu : a.tmps.getD d undef = undef := hr
        rw [if_neg (by rw [hno (hy _ hu)]; simp)]; exact pass S h
      · rename_i c e1; rw [e1] at hr
        have hb := hr.bool
        rcases den_ite h with ⟨rfl, g⟩ | ⟨rfl, g⟩
        · exact yes (hy _ hb) (S.know (u := .lit true) hb) g
        · exact no false (hy _ hb) (by simp) (S.know (u := .lit false) hb) g
      · rename_i c e1; rw [e1] at hr
        have hb := hr.bool
        rcases den_ite h with ⟨rfl, g⟩ | ⟨rfl, g⟩
        · exact no true (hy _ hb) (by simp) (S.know (u := .lit true) hb) g
        · exact yes (hy _ hb) (S.know (u := .lit false) hb) g
      · exact (den_fail h).elim
theorem evOps_ok (htt : TTok P tt) (hI : Stable I B0) (hX : GivenOK P X I B0) (hB : Below P tt X I B0 n) (hnb : nt ≤ base) {ops : Array Oper} (hd : ∀ o ∈ ops.toList, ∀ d, o.dst = some d → d < nt) {ex : Ex} {σ : St} {x0 : Aux} {w0 : World} :
    ∀ (r : List Oper) (k : Nat) (x : Aux) (t : Tmps) (b : Boxes) (a : Act) (w : World), ops.toList.drop k = r → Ext M x0 w0 x w → Sim I B0 M nt x t b a w → DenN P tt X n (Ex × St) (evOps tt ops r t b) (ex, σ) → wpOps P ops (Behind I B0 M nt x0 w0 ex σ) (List.range' k (ops.size - k)) a w
  | [], k, x, t, b, a, w, hk, hE0, S, h => by
    have hlen : ops.size ≤ k := by
      have := congrArg List.length hk
      simp at this; omega
    rw [show ops.size - k = 0 by omega]
    have := den_leaf h
    simp only [Prod.mk.injEq] at this
    obtain ⟨rfl, rfl⟩ := this
    exact ⟨x, rfl, hE0, S.df, S.ws, fun _ => S⟩
  | o :: r, k, x, t, b, a, w, hk, hE0, S, h => by
    have hlt : k < ops.size := by
      have := congrArg List.length hk
      simp at this; omega
    have ho : ops[k]? = some o := by
      rw [← Array.getElem?_toList]
      have := congrArg (·[0]?) hk
      simpa using this
    have hmem : o ∈ ops.toList := List.mem_of_getElem? (by rw [Array.getElem?_toList]; exact ho)
    have hk' : ops.toList.drop (k + 1) = r := by
      have := congrArg List.tail hk
      simpa using this
    obtain ⟨⟨pv, σ1⟩, h1, h2⟩ := den_bind h
    rw [show ops.size - k = (ops.size - (k + 1)) + 1 by omega, List.range'_succ]
    simp only [wpOps, ho]
    refine evGuard_ok htt hI hX hB hnb (hd o hmem) S h1 (fun hp a' w' x' S' hE => ?_) (fun u hu rv w' x' hr hw hE => ?_)
    · subst hp
      simp only at h2
      exact evOps_ok htt hI hX hB hnb hd r (k + 1) x' σ1.t σ1.b a' w' hk' (hE0.trans hE) S' h2
    · subst hu
      simp only at h2
      have := den_leaf h2
      simp only [Prod.mk.injEq] at this
      obtain ⟨rfl, rfl⟩ := this
      exact ⟨x', ⟨rv, rfl, hr⟩, hE0.trans hE, S.df, hw.ws, fun _ => hw⟩
/-! ### saying less -/
theorem WkV.rep {x : Aux} {σ : St} {u v : V} {val : Value} {z' : Tok → Option (Nat × Nat × Nat)} (hk : WkV σ v u) (r : RepV x u val) (hhas : ∀ k n es, u = .own k n es → z' k = x.z k) (hnew : ∀ k, hasTok k σ.t = false → hasTokB k σ.b = false → z' k = none) : RepV { x with z := z' } v val := by
  rcases hk with rfl | rfl | ⟨k, n, m, rfl, rfl, h1, h2⟩
  · by_cases ho : ∃ t n es, v = .own t n es
    · obtain ⟨t, n, es, rfl⟩ := ho
      have hz := hhas t n es rfl
      rcases (show RepOwn x t n es val from r) with ⟨a1, a2, a3⟩ | ⟨b, cap, a1, a2, a3⟩
      · exact .inl ⟨a1, a2, by show z' t = none; rw [hz]; exact a3⟩
      · exact .inr ⟨b, cap, a1, by show z' t = _; rw [hz]; exact a2, a3⟩
    · exact RepN.toV (RepN.mono (x := x) (x' := { x with z := z' }) (fun _ _ _ h => h) v val (fun _ _ => rfl) r.toN) (fun t n es e => ho ⟨t, n, es, e⟩)
  · trivial
  · have hv : val = .slice none 0 0 := by cases (RepV.d r); rfl
    exact .inl ⟨hv, rfl, hnew k h1 h2⟩
theorem WkVs.rep {x : Aux} {σ : St} {z' : Tok → Option (Nat × Nat × Nat)} (hnew : ∀ k, hasTok k σ.t = false → hasTokB k σ.b = false → z' k = none) : ∀ {vs us : List V} {l : List Value}, WkVs σ vs us → RepVs x us l → (∀ k, hasTokV k us = true → z' k = x.z k) → RepVs { x with z := z' } vs l
  | [], [], l, _, r, _ => r
  | v :: vs, u :: us, l, ⟨h1, h2⟩, ⟨val, l0, e, p, q⟩, hh => ⟨val, l0, e, h1.rep p (fun k n es hu => hh k (by subst hu; simp [hasTokV, eqTok_iff.2 rfl])) hnew, WkVs.rep hnew h2 q (fun k hk => hh k (by cases u <;> simp [hasTokV, hk]))⟩
  | [], _ :: _, _, h, _, _ => h.elim
  | _ :: _, [], _, h, _, _ => h.elim
theorem WkT.get {σ : St} : ∀ {l : Tmps}, WkT σ l → ∀ i, WkV σ (getT l i) (getT σ.t i)
  | [], _, i => .inr (.inl rfl)
  | (j, v) :: l, ⟨h1, h2⟩, i => by
    rw [getT_put]
    by_cases e : j = i
    · subst e; rw [if_pos rfl]; exact h1
    · rw [if_neg e]; exact WkT.get h2 i
theorem WkB.get {σ : St} : ∀ {l : Boxes}, WkB σ l → ∀ i cs, getB l i = some cs → ∃ us, getB σ.b i = some us ∧ WkVs σ cs us
  | [], _, i, cs, h => by cases h
  | (j, v) :: l, ⟨h1, h2⟩, i, cs, h => by
    simp only [getB] at h
    split at h
    · rename_i e
      obtain rfl := Nat.eq_of_beq_eq_true e
      cases h
      exact h1
    · exact WkB.get h2 i cs h
theorem hasTok_get {k : Tok} : ∀ {l : Tmps} {i : Nat} {n : Nat} {es : List (List D)}, getT l i = .own k n es → hasTok k l = true
  | [], i, n, es, h => by cases h
  | (j, v) :: l, i, n, es, h => by
    rw [getT_put] at h
    split at h
    · subst h; simp [hasTok, eqTok_iff.2 rfl]
    · have := hasTok_get h
      cases v <;> simp [hasTok, this]
theorem hasTokB_get {k : Tok} : ∀ {l : Boxes} {i : Nat} {cs : List V}, getB l i = some cs → hasTokV k cs = true → hasTokB k l = true
  | [], i, cs, h, _ => by cases h
  | (j, v) :: l, i, cs, h, hk => by
    simp only [getB] at h
    simp only [hasTokB, Bool.or_eq_true]
    split at h
    · cases h; exact .inl hk
    · exact .inr (hasTokB_get h hk)
theorem Sim.weak {σ σ' : St} (hI : Stable I B0) (S : Sim I B0 M nt x σ.t σ.b a w) (hk : Wk σ' σ) : ∃ x', Sim I B0 M nt x' σ'.t σ'.b a w ∧ Ext M x w x' w := by
  obtain ⟨hT, hB⟩ := hk
  let z' : Tok → Option (Nat × Nat × Nat) := fun k => if hasTok k σ.t = true ∨ hasTokB k σ.b = true then x.z k else none
  have hnew : ∀ k, hasTok k σ.t = false → hasTokB k σ.b = false → z' k = none := fun k h1 h2 => by simp [z', h1, h2]
  have hz : ∀ k p, z' k = some p → x.z k = some p := fun k p h => by
    simp only [z'] at h
    split at h
    · exact h
    · cases h
  refine ⟨{ x with z := z' }, ⟨fun i => (hT.get i).rep (S.tm i) (fun k n es hu => by simp [z', hasTok_get hu]) hnew, S.sz, S.df, ⟨S.ws.inv, S.ws.big, S.ws.top, S.ws.agree, fun i cs hc => ?_, fun i j cs ds hc hd he => ?_, fun t k s e h => S.ws.zone t k s e (hz _ _ h), fun t t' k s e s' e' h1 h2 => S.ws.zinj _ _ _ _ _ _ _ (hz _ _ h1) (hz _ _ h2), fun t k s e i cs h1 h2 => ?_⟩⟩, ⟨rfl, rfl, rfl, Nat.le_refl _, fun _ _ => rfl, fun _ _ _ h => h, fun _ _ => rfl, fun _ _ => rfl⟩⟩
  · obtain ⟨us, h1, h2⟩ := hB.get i cs hc
    obtain ⟨g1, g2, ws, ty, g3, g4⟩ := S.ws.box i us h1
    exact ⟨g1, g2, ws, ty, g3, h2.rep hnew g4 (fun k hk => by simp [z', hasTokB_get h1 hk])⟩
  · obtain ⟨us, h1, _⟩ := hB.get i cs hc
    obtain ⟨vs, h2, _⟩ := hB.get j ds hd
    exact S.ws.inj i j us vs h1 h2 he
  · obtain ⟨us, h3, _⟩ := hB.get i cs h2
    exact S.ws.zbox t k s e i us (hz _ _ h1) h3
end
end Go.Proofs.YtacfbgfphkfobaaGreatDoor.Id
/-! ## IdealR -/
namespace Go.Proofs.YtacfbgfphkfobaaGreatDoor.Id
open Go
set_option linter.unusedSectionVars false
set_option linter.unusedVariables false
set_option linter.unusedSimpArgs false
section
variable {tt : TT} {ρ ρ' : Operand → V} {β β' : Nat → Option (List V)}
theorem addAll_mem : ∀ {l m : List Nat} {q : Nat}, q ∈ addAll l m ↔ q ∈ l ∨ q ∈ m
  | l, [], q => by simp [addAll]
  | l, i :: r, q => by
    simp only [addAll]
    cases h : memN i l with
    | true =>
      simp only
      rw [addAll_mem]
      have := memN_iff.1 h
      constructor
      · rintro (h1 | h1)
        · exact .inl h1
        · exact .inr (List.mem_cons_of_mem _ h1)
      · rintro (h1 | h1)
        · exact .inl h1
        · rcases List.mem_cons.1 h1 with rfl | h2
          · exact .inl this
          · exact .inr h2
    | false =>
      simp only
      rw [addAll_mem]
      simp only [List.mem_append, List.mem_cons, List.not_mem_nil, or_false]
      constructor
      · rintro ((h1 | h1) | h1)
        · exact .inl h1
        · exact .inr (.inl h1)
        · exact .inr (.inr h1)
      · rintro (h1 | h1 | h1)
        · exact .inl (.inl h1)
        · exact .inl (.inr h1)
        · exact .inr h1
theorem cellIds_congr : ∀ {l : List Nat}, (∀ q ∈ l, β q = β' q) → cellIds β l = cellIds β' l
  | [], _ => rfl
  | i :: r, h => by
    simp only [cellIds]
    rw [h i (List.mem_cons_self ..), cellIds_congr (fun q hq => h q (List.mem_cons_of_mem _ hq))]
theorem boxesIn_congr {f : Nat → Option Nat} : ∀ {l : List Nat} {j : Nat}, (∀ q ∈ l, β q = β' q) → boxesIn β f l j = boxesIn β' f l j
  | [], _, _ => rfl
  | i :: r, j, h => by
    simp only [boxesIn]
    rw [h i (List.mem_cons_self ..), boxesIn_congr (fun q hq => h q (List.mem_cons_of_mem _ hq))]
theorem boxesAt_congr : ∀ {l : List Nat}, (∀ q ∈ l, β q = β' q) → boxesAt β l = boxesAt β' l
  | [], _ => rfl
  | i :: r, h => by
    simp only [boxesAt]
    rw [h i (List.mem_cons_self ..), boxesAt_congr (fun q hq => h q (List.mem_cons_of_mem _ hq))]
theorem callFoot_congr {args : List V} (h : ∀ q ∈ callFoot args β, β q = β' q) : callFoot args β = callFoot args β' ∧ (∀ q ∈ addAll [] (boxIdss args), β q = β' q) ∧ cellIds β (addAll [] (boxIdss args)) = cellIds β' (addAll [] (boxIdss args)) ∧
    cellIds β (addAll (addAll [] (boxIdss args)) (cellIds β (addAll [] (boxIdss args)))) = cellIds β' (addAll (addAll [] (boxIdss args)) (cellIds β (addAll [] (boxIdss args)))) := by
  have h1 : ∀ q ∈ addAll (addAll [] (boxIdss args)) (cellIds β (addAll [] (boxIdss args))), β q = β' q := fun q hq => h q (addAll_mem.2 (.inl hq))
  have h0 : ∀ q ∈ addAll [] (boxIdss args), β q = β' q := fun q hq => h1 q (addAll_mem.2 (.inl hq))
  have e0 := cellIds_congr h0
  have e1 := cellIds_congr h1
  refine ⟨?_, h0, e0, e1⟩
  unfold callFoot
  rw [e1, e0]
theorem evCall_congr {g : FuncId} {args : List V} (h : ∀ q ∈ callFoot args β, β q = β' q) : evCall g args β = evCall g args β' := by
  obtain ⟨_, h0, e0, e1⟩ := callFoot_congr h
  unfold evCall
  simp only [forceVs_eq, forceNs_eq]
  rw [← e0, ← e1]
  have hf : ∀ q ∈ addAll (addAll (addAll [] (boxIdss args)) (cellIds β (addAll [] (boxIdss args)))) (cellIds β (addAll (addAll [] (boxIdss args)) (cellIds β (addAll [] (boxIdss args))))), β q = β' q := h
  rw [cellIds_congr hf, boxesIn_congr hf, boxesAt_congr hf]
theorem opEff_congr (o : Oper) (hρ : ∀ y ∈ o.op.operands, ρ y = ρ' y) (hβ : ∀ q ∈ footB tt o ρ β, β q = β' q) : opEff tt o ρ β = opEff tt o ρ' β' := by
  obtain ⟨dst, op, type, pos, after, guard⟩ := o
  have pairs : ∀ ps : Array (Nat × Operand), (∀ y ∈ ps.map (·.2), ρ y = ρ' y) → (ps.toList.map fun p => (p.1, ρ p.2)) = ps.toList.map fun p => (p.1, ρ' p.2) := fun ps hp =>
    List.map_congr_left fun p hm => by rw [hp p.2 (Array.mem_map.2 ⟨p, Array.mem_toList_iff.1 hm, rfl⟩)]
  have lists : ∀ l : Array Operand, (∀ y ∈ l, ρ y = ρ' y) → l.toList.map ρ = l.toList.map ρ' := fun l hl => List.map_congr_left fun y hm => hl y (Array.mem_toList_iff.1 hm)
  have listsp : ∀ l : Array Operand, (∀ y ∈ l, ρ y = ρ' y) → (l.toList.map fun y => (ρ y).plain) = l.toList.map fun y => (ρ' y).plain := fun l hl => List.map_congr_left fun y hm => by rw [hl y (Array.mem_toList_iff.1 hm)]
  cases op <;> simp only [Op.operands] at hρ <;> simp only [opEff]
  case build t ps => rw [pairs ps fun y hy => hρ y (by simpa using hy)]
  case buildSlice t n ps => rw [pairs ps fun y hy => hρ y (by simpa using hy)]
  case makeFunc fn first captured =>
    cases fn <;> first | rfl | (simp only [opEff]; rw [listsp first fun y hy => hρ y (by simp [hy]), listsp captured fun y hy => hρ y (by simp [hy])])
  case load t y =>
    have := hρ y (by simp)
    rw [← this]
    simp only [footB] at hβ
    split
    · rename_i i off _ e; rw [e] at hβ; rw [hβ i (by simp)]
    · rfl
    · rfl
  case store t y z =>
    have h1 := hρ y (by simp)
    have h2 := hρ z (by simp)
    rw [← h1, ← h2]
    simp only [footB] at hβ
    split
    · rename_i i off _ e; rw [e] at hβ; rw [hβ i (by simp)]
    · rfl
  case call c =>
    have hargs : c.args.toList.map ρ = c.args.toList.map ρ' := lists c.args fun y hy => hρ y (by simp [Call.operands, hy])
    cases hc : c.callee with
    | builtin b => simp only [hargs]
    | value f =>
      have hf := hρ f (by simp [Call.operands, hc])
      simp only
      rw [← hf, ← hargs]
      split
      · rename_i g l1 l2 e
        refine evCall_congr fun q hq => hβ q ?_
        simp only [footB, hc, e]
        exact hq
      · rfl
    | invoke r m => rfl
  case slice t y lo hi mx =>
    have hy : ρ y = ρ' y := hρ y (by simp)
    cases mx with
    | some _ => rfl
    | none =>
      simp only
      have hlo : optInt ρ lo = optInt ρ' lo := by
        cases lo with
        | none => rfl
        | some z => simp only [optInt]; rw [hρ z (by simp)]
      have hhi : optInt ρ hi = optInt ρ' hi := by
        cases hi with
        | none => rfl
        | some z => simp only [optInt]; rw [hρ z (by simp)]
      rw [hlo, hhi, hy]
  all_goals (first | rfl | (simp only [List.mem_toArray, List.mem_cons, List.not_mem_nil, or_false, forall_eq_or_imp, forall_eq] at hρ; simp only [hρ]; done) | (simp_all; done) | trace_state)
theorem footB_congr (o : Oper) (hρ : ∀ y ∈ o.op.operands, ρ y = ρ' y) (hβ : ∀ q ∈ footB tt o ρ β, β q = β' q) : footB tt o ρ β = footB tt o ρ' β' := by
  obtain ⟨dst, op, type, pos, after, guard⟩ := o
  cases op <;> simp only [Op.operands] at hρ <;> simp only [footB] at hβ ⊢
  case load t y => rw [hρ y (by simp)]
  case store t y z => rw [hρ y (by simp)]
  case call c =>
    have hargs : c.args.toList.map ρ = c.args.toList.map ρ' := List.map_congr_left fun y hm => hρ y (by simp [Call.operands, Array.mem_toList_iff.1 hm])
    cases hc : c.callee with
    | builtin b => rfl
    | value f =>
      have hf := hρ f (by simp [Call.operands, hc])
      simp only [hc] at hβ ⊢
      rw [← hf, ← hargs]
      split
      · rename_i g l1 l2 e
        simp only [e] at hβ
        exact (callFoot_congr hβ).1
      · rfl
    | invoke r m => rfl
theorem opEffD_congr (o : Oper) (hρ : ∀ y ∈ o.op.operands, ρ y = ρ' y) (hβ : ∀ q ∈ footB tt o ρ β, β q = β' q) : opEffD tt o ρ β = opEffD tt o ρ' β' := by
  unfold opEffD
  rw [opEff_congr o hρ hβ]
theorem wantD_congr {ops : Array Oper} (o : Oper) {t t' : Tmps} (h : ∀ d ∈ o.looksAt ops, getT t d = getT t' d) : wantD ops o t = wantD ops o t' := by
  unfold wantD
  cases hg : o.guard with
  | none => rfl
  | some gw =>
    obtain ⟨g, want⟩ := gw
    simp only
    cases hd : (ops[g]?).bind (·.dst) with
    | none => rfl
    | some d =>
      simp only
      rw [h d (by simp [Oper.looksAt, hg, hd])]
theorem ev_congr {ops : Array Oper} (o : Oper) {t t' : Tmps} {b b' : Boxes} (h : ∀ d ∈ o.looksAt ops, getT t d = getT t' d) : ∀ y ∈ o.op.operands, St.ev ⟨t, b⟩ y = St.ev ⟨t', b'⟩ y := fun y hy => by
  cases y with
  | tmp d => exact h d (List.mem_append_left _ (List.mem_filterMap.2 ⟨.tmp d, by simpa using hy, rfl⟩))
  | _ => rfl
end
end Go.Proofs.YtacfbgfphkfobaaGreatDoor.Id
/-! ## IdealS -/
namespace Go.Proofs.YtacfbgfphkfobaaGreatDoor.Id
open Go
set_option linter.unusedSectionVars false
set_option linter.unusedVariables false
set_option linter.unusedSimpArgs false
section
variable {P : Program} {tt : TT} {X : Given} {α β : Type} {n : Nat}
theorem DenN.bindLeaf {β : Type} {t : T α} {f : α → T β} {a : α} {c : β} (h : DenN P tt X n α t a) (hf : f a = .leaf c) : DenN P tt X n β (t.bind f) c := by
  induction h with
  | leaf a => show DenN P tt X _ β (f a) c; rw [hf]; exact .leaf c
  | iteT h _ ih => exact .iteT h (ih hf)
  | iteF h _ ih => exact .iteF h (ih hf)
  | asrt h _ ih => exact .asrt h (ih hf)
  | idx h1 h2 _ ih => exact .idx h1 h2 (ih hf)
  | bytes h _ ih => exact .bytes h (ih hf)
  | call h1 h2 h3 _ _ ih2 => exact .call h1 h2 h3 (ih2 hf)
  | ext h _ ih => exact .ext h (ih hf)
  | loopN h1 h2 _ _ ih2 => exact .loopN h1 h2 (ih2 hf)
  | loopX h0 h1 h2 h3 _ _ ih2 => exact .loopX h0 h1 h2 h3 (ih2 hf)
end
section
variable {I : World → Prop} {B0 : Nat} {M : Nat → Prop} {P : Program} {tt : TT} {X : Given} {n nt : Nat} {x : Aux} {t : Tmps} {b : Boxes} {a : Act} {w : World}
variable [Ds]
theorem Sim.same (S : Sim I B0 M nt x t b a w) {t1 : Tmps} {b1 : Boxes} (ht : ∀ i, getT t1 i = getT t i) (hb : ∀ i, getB b1 i = getB b i) : Sim I B0 M nt x t1 b1 a w :=
  ⟨fun i => by rw [ht]; exact S.tm i, S.sz, S.df, S.ws.same hb⟩
theorem clean_hasBox {scr : List Tok} {drp : List Nat} {d : Nat} (hd : d ∈ drp) (u : V) : hasBox d (cleanV scr drp u) = false := by
  unfold cleanV
  rcases dropVs_cases drp (scrubVs scr u) with ⟨h1, h2⟩ | h1
  · rw [h1]; exact h2 d hd
  · rw [h1]; rfl
theorem clean_isTok {scr : List Tok} {drp : List Nat} {k : Tok} (hk : k ∈ scr) (u : V) : isTok k (cleanV scr drp u) = false := by
  have hs : isTok k (scrubVs scr u) = false := by
    by_cases ho : ∃ t n es, u = .own t n es
    · obtain ⟨t, n, es, rfl⟩ := ho
      rcases scrubVs_own scr t n es with ⟨e, ht⟩ | e
      · rw [e]
        show eqTok t k = false
        rw [eqTok_false]
        rintro rfl; exact ht hk
      · rw [e]; rfl
    · rw [scrubVs_ne scr u (fun t n es e => ho ⟨t, n, es, e⟩)]
      cases u <;> first | rfl | exact absurd ⟨_, _, _, rfl⟩ ho
  unfold cleanV
  rcases dropVs_cases drp (scrubVs scr u) with ⟨h1, h2⟩ | h1
  · rw [h1]; exact hs
  · rw [h1]; rfl
theorem cleanVs_hasBox {scr : List Tok} {drp : List Nat} {d : Nat} (hd : d ∈ drp) : ∀ us : List V, hasBoxes d (cleanVs scr drp us) = false
  | [] => rfl
  | u :: r => by simp only [cleanVs, hasBoxes, clean_hasBox hd u, cleanVs_hasBox hd r, Bool.or_self]
theorem cleanVs_isTok {scr : List Tok} {drp : List Nat} {k : Tok} (hk : k ∈ scr) : ∀ us : List V, anyTok k (cleanVs scr drp us) = false
  | [] => rfl
  | u :: r => by simp only [cleanVs, anyTok, clean_isTok hk u, cleanVs_isTok hk r, Bool.or_self]
theorem clean_noTok {k : Tok} {v : V} (h : isTok k v = false) : cleanV [k] [] v = v := by
  show scrubV k v = v
  cases v <;> first | rfl | (rename_i t n es; have h' : eqTok t k = false := h; simp [scrubV, h'])
theorem cleanVs_noTok {k : Tok} : ∀ {vs : List V}, anyTok k vs = false → cleanVs [k] [] vs = vs
  | [], _ => rfl
  | v :: r, h => by
    simp only [anyTok, Bool.or_eq_false_iff] at h
    rw [cleanVs, clean_noTok h.1, cleanVs_noTok h.2]
theorem memK_iff {t : Tok} : ∀ {ks : List Tok}, memK t ks = true ↔ t ∈ ks
  | [] => by simp [memK]
  | k :: r => by simp only [memK, Bool.or_eq_true, eqTok_iff, memK_iff (ks := r), List.mem_cons]
theorem scV_nil (v : V) : scV [] v = v := by cases v <;> rfl
theorem scVs_nil : ∀ vs : List V, scVs [] vs = vs
  | [] => rfl
  | v :: r => by rw [scVs, scV_nil, scVs_nil r]
theorem getB_sc0 (b : Boxes) (i : Nat) : (getB b i).map (scVs []) = getB b i := by
  cases getB b i with
  | none => rfl
  | some cs => exact congrArg some (scVs_nil cs)
theorem getT_scTg (sc : List Tok) : ∀ (t : Tmps) (i : Nat), getT (scTg sc t) i = scV sc (getT t i)
  | [], i => rfl
  | (j, v) :: r, i => by
    simp only [scTg, getT]
    cases Nat.beq j i
    · exact getT_scTg sc r i
    · rfl
theorem getB_scBg (sc : List Tok) : ∀ (b : Boxes) (i : Nat), getB (scBg sc b) i = (getB b i).map (scVs sc)
  | [], i => rfl
  | (j, v) :: r, i => by
    simp only [scBg, getB]
    cases Nat.beq j i
    · exact getB_scBg sc r i
    · rfl
theorem getT_scT (sc : List Tok) (t : Tmps) (i : Nat) : getT (scT sc t) i = scV sc (getT t i) := by
  cases sc with
  | nil => exact (scV_nil _).symm
  | cons k ks => exact getT_scTg _ _ _
theorem getB_scB (sc : List Tok) (b : Boxes) (i : Nat) : getB (scB sc b) i = (getB b i).map (scVs sc) := by
  cases sc with
  | nil => exact (getB_sc0 b i).symm
  | cons k ks => exact getB_scBg _ _ _
theorem scE_eq {α : Type} (t : Tmps) (b : Boxes) (sc : List Tok) (k : Tmps → Boxes → α) : scE t b sc k = k (scT sc t) (scB sc b) := by
  cases sc with
  | nil => rfl
  | cons k1 ks => rw [scE, forceT_eq, forceB_eq]; rfl
theorem scrubVs_in {t : Tok} {n : Nat} {es : List (List D)} : ∀ {ks : List Tok}, t ∉ ks → scrubVs ks (.own t n es) = .own t n es
  | [], _ => rfl
  | k :: r, h => by
    have e : eqTok t k = false := eqTok_false.2 fun e => h (by rw [e]; exact List.mem_cons_self ..)
    show scrubVs r (scrubV k (.own t n es)) = _
    simp only [scrubV, e]
    exact scrubVs_in fun hm => h (List.mem_cons_of_mem _ hm)
theorem scV_ne {ks : List Tok} {u : V} (h : ∀ t n es, u ≠ .own t n es) : scV ks u = u := by cases u <;> first | rfl | exact absurd rfl (h _ _ _)
theorem scV_rep {ks : List Tok} {u : V} {v : Value} (r : RepV x (cleanV ks [] u) v) : RepV x (scV ks u) v := by
  by_cases ho : ∃ t n es, u = .own t n es
  · obtain ⟨t, n, es, rfl⟩ := ho
    by_cases hm : t ∈ ks
    · have e : scV ks (.own t n es) = .undef := by simp only [scV, memK_iff.2 hm]
      rw [e]; trivial
    · have e : memK t ks = false := by rw [← Bool.not_eq_true, memK_iff]; exact hm
      have e2 : scV ks (.own t n es) = .own t n es := by simp only [scV, e]
      have e3 : cleanV ks [] (.own t n es) = .own t n es := scrubVs_in hm
      rw [e2]; rw [e3] at r; exact r
  · have hn : ∀ t n es, u ≠ .own t n es := fun t n es e => ho ⟨t, n, es, e⟩
    have e3 : cleanV ks [] u = u := scrubVs_ne ks u hn
    rw [scV_ne hn]; rw [e3] at r; exact r
theorem scVs_rep {ks : List Tok} : ∀ {us : List V} {vs : List Value}, RepVs x (cleanVs ks [] us) vs → RepVs x (scVs ks us) vs
  | [], _, r => r
  | _ :: _, _, ⟨v, vs, e, p, q⟩ => ⟨v, vs, e, scV_rep p, scVs_rep q⟩
theorem WSim.weak {b1 : Boxes} (S : WSim I B0 M x b w) (h : ∀ i cs', getB b1 i = some cs' → ∃ cs, getB b i = some cs ∧ ∀ vs, RepVs x cs vs → RepVs x cs' vs) : WSim I B0 M x b1 w := by
  refine ⟨S.inv, S.big, S.top, S.agree, fun i cs hc => ?_, fun i j cs ds hc hd he => ?_, S.zone, S.zinj, fun t k s e i cs hz hc => ?_⟩
  · obtain ⟨c0, h1, hr⟩ := h i cs hc
    obtain ⟨g1, g2, ws, ty, g3, g4⟩ := S.box i c0 h1
    exact ⟨g1, g2, ws, ty, g3, hr _ g4⟩
  · obtain ⟨c1, h1, _⟩ := h i cs hc
    obtain ⟨c2, h2, _⟩ := h j ds hd
    exact S.inj i j c1 c2 h1 h2 he
  · obtain ⟨c0, h1, _⟩ := h i cs hc
    exact S.zbox t k s e i c0 hz h1
/-- no box stands in what is cleaned of tokens alone -/
theorem clean_drop {scr : List Tok} {drp : List Nat} {u : V} (h : ∀ d ∈ drp, hasBox d u = false) : cleanV scr drp u = cleanV scr [] u := by
  have hs : ∀ d ∈ drp, hasBox d (scrubVs scr u) = false := fun d hd => by
    by_cases ho : ∃ t n es, u = .own t n es
    · obtain ⟨t, n, es, rfl⟩ := ho
      rcases scrubVs_own scr t n es with ⟨e, _⟩ | e <;> rw [e] <;> rfl
    · rw [scrubVs_ne scr u fun t n es e => ho ⟨t, n, es, e⟩]; exact h d hd
  show dropVs drp (scrubVs scr u) = scrubVs scr u
  generalize scrubVs scr u = z at hs
  induction drp with
  | nil => rfl
  | cons d r ih =>
    have e : dropV d z = z := by simp [dropV, hs d (List.mem_cons_self ..)]
    show dropVs r (dropV d z) = z
    rw [e]; exact ih (fun d hd => h d (List.mem_cons_of_mem _ hd)) (fun d hd => hs d (List.mem_cons_of_mem _ hd))
theorem cleans_drop {scr : List Tok} {drp : List Nat} : ∀ {us : List V}, (∀ d ∈ drp, hasBoxes d us = false) → cleanVs scr drp us = cleanVs scr [] us
  | [], _ => rfl
  | u :: r, h => by
    have h1 : ∀ d ∈ drp, hasBox d u = false ∧ hasBoxes d r = false := fun d hd => by have := h d hd; simp only [hasBoxes, Bool.or_eq_false_iff] at this; exact this
    rw [cleanVs, cleanVs, clean_drop fun d hd => (h1 d hd).1, cleans_drop fun d hd => (h1 d hd).2]
/-- nobody speaks of what an operation makes -/
def Unsaid (o : Oper) (t : Tmps) (b : Boxes) : Prop :=
  ∀ d, o.dst = some d → (isNew o.op = true → (∀ i, hasBox d (getT t i) = false) ∧ ∀ i cs, getB b i = some cs → hasBoxes d cs = false) ∧
    (isRow o.op = true → (∀ i, isTok (d, here) (getT t i) = false) ∧ ∀ i cs, getB b i = some cs → anyTok (d, here) cs = false)
theorem opD_ok (htt : TTok P tt) (hI : Stable I B0) (hX : GivenOK P X I B0) (hB : Below P tt X I B0 n) (hnb : nt ≤ base) {o : Oper} (hd : ∀ d, o.dst = some d → d < nt) (S : Sim I B0 M nt x t b a w) {pv : Option V} {e : Eff} (hu : Unsaid o t b)
    (h : DenN P tt X n Res (opEffD tt o (St.ev ⟨t, b⟩) (getB b)) (pv, e)) {K : Act → World → Prop} {Q : Exit → Act → World → Prop}
    (hK : pv = none → ∀ a' w' x' t1 b1, (∀ i, getT t1 i = scV e.scr (getT t i)) → (∀ i, getB b1 i = (getB b i).map (scVs e.scr)) → Sim I B0 M nt x' (putT o.dst e.v t1) (catB e.wr b1) a' w' → Ext M x w x' w' → K a' w')
    (hQ : ∀ u, pv = some u → ∀ rv w' x' b1, (∀ i, getB b1 i = (getB b i).map (scVs e.scr)) → RepN x' u rv → WSim I B0 M x' (catB e.wr b1) w' → Ext M x w x' w' → Q (.panic [{ v := rv, recovered := false }]) a w') : o.wp P a w K Q := by
  have hcat : ∀ (wr b1 : Boxes), (∀ i, getB b1 i = getB b i) → ∀ i, getB (catB wr b) i = getB (catB wr b1) i := fun wr b1 hb i => by rw [getB_cat, getB_cat]; cases getB wr i <;> simp [hb]
  have hput : ∀ (d : Option Nat) (v : V) (t1 : Tmps), (∀ i, getT t1 i = getT t i) → ∀ i, getT (putT d v t) i = getT (putT d v t1) i := fun d v t1 ht i => by
    cases d with
    | none => exact (ht i).symm
    | some d => show getT ((d, v) :: t) i = getT ((d, v) :: t1) i; rw [getT_put, getT_put, ht]
  by_cases hr : isRow o.op = true
  · -- a row: what it owns is only read
    unfold opEffD at h
    split at h
    · rename_i rt rlen rps hop
      obtain ⟨⟨q, e0⟩, h1, h2⟩ := den_bind h
      have h1' := h1
      simp only [opEff, hop] at h1'
      split at h1'
      · rename_i d el m _ _ _ _ hdst _
        split at h1'
        · split at h1'
          · split at h1'
            · rename_i es _ _
              have := den_leaf h1'
              simp only [Prod.mk.injEq] at this
              obtain ⟨rfl, rfl⟩ := this
              have := den_leaf h2
              simp only [Prod.mk.injEq] at this
              obtain ⟨rfl, rfl⟩ := this
              obtain ⟨t1, b1, g1, g2, g3⟩ := applyE_eq t b o.dst { v := V.own (d, here) m es, scr := [(d, here)] } (fun t b => (T.leaf (none, (⟨t, b⟩ : St)) : T (Option V × St)))
              obtain ⟨_, hu2⟩ := hu d hdst
              obtain ⟨u1, u2⟩ := hu2 hr
              have ht1 : ∀ i, getT t1 i = getT t i := fun i => by rw [g2]; exact clean_noTok (u1 i)
              have hb1 : ∀ i, getB b1 i = getB b i := fun i => by
                rw [g3]
                cases hc : getB b i with
                | none => rfl
                | some cs => exact congrArg some (cleanVs_noTok (u2 i cs hc))
              refine evOp_ok htt hI hX hB hnb hd S (pv := none) (σ := ⟨putT o.dst (V.own (d, here) m es) t1, catB [] b1⟩) (DenN.bindLeaf h1 g1) (fun _ a' w' x' S' hE => ?_) (fun u hu' => by cases hu')
              refine hK rfl a' w' x' t b (fun i => (scV_nil _).symm) (fun i => (getB_sc0 b i).symm) ?_ hE
              have S2 := S'.same (hput o.dst _ t1 ht1) (hcat [] b1 hb1)
              refine ⟨fun i => ?_, S2.sz, S2.df, S2.ws⟩
              have hi := S2.tm i
              rw [hdst] at hi ⊢
              change RepV x' (getT ((d, _) :: t) i) _ at hi
              change RepV x' (getT ((d, _) :: t) i) _
              rw [getT_put] at hi ⊢
              split
              · rename_i e1
                rw [if_pos e1] at hi
                exact RepOwn.repD hi
              · rename_i e1
                rw [if_neg e1] at hi
                exact hi
            · exact (den_fail h1').elim
          · exact (den_fail h1').elim
        · exact (den_fail h1').elim
      · exact (den_fail h1').elim
    · rename_i hne
      exfalso
      cases hop : o.op <;> rw [hop] at hr <;> first | (cases hr; done) | exact hne _ _ _ hop
  · have h' : ∃ q e0, DenN P tt X n Res (opEff tt o (St.ev ⟨t, b⟩) (getB b)) (q, e0) ∧ q = pv ∧ e0 = e ∧ (e.drp = [] ∨ ∃ d, e.drp = [d] ∧ isNew o.op = true ∧ o.dst = some d) := by
      unfold opEffD at h
      split at h
      · rename_i hop; rw [hop] at hr; exact absurd rfl hr
      · obtain ⟨⟨q, e0⟩, h1, h2⟩ := den_bind h
        simp only at h2
        split at h2
        · rename_i e2
          have := den_leaf h2
          simp only [Prod.mk.injEq] at this
          obtain ⟨rfl, rfl⟩ := this
          exact ⟨_, _, h1, rfl, rfl, .inl e2⟩
        · rename_i d e2
          split at h2
          · rename_i e3
            have := den_leaf h2
            simp only [Prod.mk.injEq] at this
            obtain ⟨rfl, rfl⟩ := this
            simp only [Bool.and_eq_true] at e3
            refine ⟨_, _, h1, rfl, rfl, .inr ⟨d, e2, e3.1, ?_⟩⟩
            have e4 := e3.2
            cases hod : o.dst with
            | none => rw [hod] at e4; cases e4
            | some d' => rw [hod] at e4; exact congrArg some (Nat.eq_of_beq_eq_true e4).symm
          · exact (den_fail h2).elim
        · exact (den_fail h2).elim
    obtain ⟨q, e0, h1, rfl, rfl, hdr⟩ := h'
    have hcl : (∀ i, cleanV e0.scr e0.drp (getT t i) = cleanV e0.scr [] (getT t i)) ∧ ∀ i cs, getB b i = some cs → cleanVs e0.scr e0.drp cs = cleanVs e0.scr [] cs := by
      rcases hdr with hdr | ⟨d, hdr, h3, h4⟩
      · rw [hdr]; exact ⟨fun _ => rfl, fun _ _ _ => rfl⟩
      · rw [hdr]
        obtain ⟨u1, u2⟩ := (hu d h4).1 h3
        refine ⟨fun i => clean_drop fun d' hd' => ?_, fun i cs hc => cleans_drop fun d' hd' => ?_⟩
        · simp only [List.mem_singleton] at hd'; subst hd'; exact u1 i
        · simp only [List.mem_singleton] at hd'; subst hd'; exact u2 i cs hc
    have wkb : ∀ {x' : Aux} {b1 : Boxes}, (∀ i, getB b1 i = (getB b i).map (cleanVs e0.scr e0.drp)) → ∀ i cs', getB (catB e0.wr (scB e0.scr b)) i = some cs' → ∃ cs, getB (catB e0.wr b1) i = some cs ∧ ∀ vs, RepVs x' cs vs → RepVs x' cs' vs := fun {x' b1} g3 i cs' hc => by
      rw [getB_cat] at hc ⊢
      cases hw : getB e0.wr i with
      | some cs => rw [hw] at hc; exact ⟨cs, rfl, fun vs hv => by cases hc; exact hv⟩
      | none =>
        rw [hw] at hc
        simp only [getB_scB] at hc
        cases hb : getB b i with
        | none => rw [hb] at hc; cases hc
        | some cs =>
          rw [hb] at hc
          cases hc
          refine ⟨cleanVs e0.scr [] cs, ?_, fun vs hv => scVs_rep hv⟩
          simp only [g3, hb, Option.map_some, hcl.2 i cs hb]
    cases q with
    | none =>
      obtain ⟨t1, b1, g1, g2, g3⟩ := applyE_eq t b o.dst e0 (fun t b => (T.leaf (none, (⟨t, b⟩ : St)) : T (Option V × St)))
      refine evOp_ok htt hI hX hB hnb hd S (pv := none) (σ := ⟨putT o.dst e0.v t1, catB e0.wr b1⟩) (DenN.bindLeaf h1 g1) (fun _ a' w' x' S' hE => ?_) (fun u hu' => by cases hu')
      refine hK rfl a' w' x' (scT e0.scr t) (scB e0.scr b) (getT_scT _ _) (getB_scB _ _) ⟨fun i => ?_, S'.sz, S'.df, S'.ws.weak (wkb g3)⟩ hE
      have hi := S'.tm i
      cases hod : o.dst with
      | none =>
        rw [hod] at hi
        change RepV x' (getT t1 i) _ at hi
        change RepV x' (getT (scT e0.scr t) i) _
        rw [getT_scT]
        rw [g2, hcl.1] at hi
        exact scV_rep hi
      | some d =>
        rw [hod] at hi
        change RepV x' (getT ((d, _) :: t1) i) _ at hi
        change RepV x' (getT ((d, _) :: scT e0.scr t) i) _
        rw [getT_put] at hi ⊢
        split
        · rename_i e1; rw [if_pos e1] at hi; exact hi
        · rename_i e1
          rw [if_neg e1] at hi
          rw [getT_scT]
          rw [g2, hcl.1] at hi
          exact scV_rep hi
    | some u =>
      obtain ⟨t1, b1, g1, g2, g3⟩ := applyE_eq t b none { e0 with v := .undef } (fun t b => (T.leaf (some u, (⟨t, b⟩ : St)) : T (Option V × St)))
      refine evOp_ok htt hI hX hB hnb hd S (pv := some u) (σ := ⟨putT none V.undef t1, catB e0.wr b1⟩) (DenN.bindLeaf h1 g1) (fun hp => by cases hp) (fun u' hu' rv w' x' hr' hw hE => ?_)
      cases hu'
      exact hQ u rfl rv w' x' (scB e0.scr b) (getB_scB _ _) hr' (hw.ws.weak (wkb g3)) hE
theorem wantD_ok {ops : Array Oper} {o : Oper} (S : Sim I B0 M nt x t b a w) {q : Bool} (h : DenN P tt X n Bool (wantD ops o t) q) : Region.wanted o (yielded ops a.tmps) = q := by
  unfold wantD at h
  split at h
  · rename_i e; rw [← den_leaf h]; simp [Region.wanted, e]
  · rename_i j want e
    split at h
    · exact (den_fail h).elim
    · rename_i d ed
      have hy : ∀ v, a.tmps.getD d undef = v → yielded ops a.tmps j = asB v := fun v hv => yielded_of ed hv
      have hwant : ∀ c, yielded ops a.tmps j = some c → Region.wanted o (yielded ops a.tmps) = (c == want) := fun c hc => by
        simp only [Region.wanted, e, hc]
        cases c <;> cases want <;> rfl
      have hno : yielded ops a.tmps j = none → Region.wanted o (yielded ops a.tmps) = false := fun hc => by simp [Region.wanted, e, hc]
      have hr := S.tm d
      split at h
      · rename_i c e1; rw [e1] at hr; rw [← den_leaf h]; exact hwant _ (hy _ hr)
      · rename_i e1; rw [e1] at hr
        have hu : a.tmps.getD d undef = undef := hr
        rw [← den_leaf h]; exact hno (hy _ hu)
      · rename_i c e1; rw [e1] at hr
        have hb := hr.bool
        have hc := hwant _ (hy _ hb)
        rcases den_ite h with ⟨rfl, g⟩ | ⟨rfl, g⟩
        · rw [← den_leaf g, hc]; cases want <;> rfl
        · rw [← den_leaf g, hc]; cases want <;> rfl
      · exact (den_fail h).elim
end
end Go.Proofs.YtacfbgfphkfobaaGreatDoor.Id
/-! ## IdealU -/
namespace Go.Proofs.YtacfbgfphkfobaaGreatDoor.Id
open Go
set_option linter.unusedSectionVars false
set_option linter.unusedVariables false
set_option linter.unusedSimpArgs false
section
variable {P : Program} {tt : TT} {X : Given} {n nt : Nat} {ops : Array Oper} {t0 : Tmps} {b0 : Boxes}
variable [Ds]
def dstAt (ops : Array Oper) (i : Nat) : Option Nat := (ops[i]?).bind (·.dst)
def tOf (ops : Array Oper) (l : Nat → Bool) (t0 : Tmps) : List Rec → Tmps
  | [] => t0
  | r :: rs => if l r.i = true then putT (dstAt ops r.i) r.v (scT r.sc (tOf ops l t0 rs)) else tOf ops l t0 rs
def bOf (l : Nat → Bool) (b0 : Boxes) : List Rec → Boxes
  | [] => b0
  | r :: rs => if l r.i = true then catB r.wr (scB r.sc (bOf l b0 rs)) else bOf l b0 rs
def top : Nat → Bool := fun _ => true
def RunsAt (P : Program) (tt : TT) (X : Given) (n : Nat) (ops : Array Oper) (p : Option V) (r : Rec) (t : Tmps) (b : Boxes) : Prop :=
  ∃ o, ops[r.i]? = some o ∧ r.cl = niceAll t (o.looksAt ops) ∧ ((DenN P tt X n Bool (wantD ops o t) false ∧ p = none ∧ r.v = .skip ∧ r.wr = [] ∧ r.sc = []) ∨
    (DenN P tt X n Bool (wantD ops o t) true ∧ r.ft = footB tt o (St.ev ⟨t, b⟩) (getB b) ∧ ∃ e, DenN P tt X n Res (opEffD tt o (St.ev ⟨t, b⟩) (getB b)) (p, e) ∧ r.wr = e.wr ∧ r.sc = e.scr ∧ (p = none → r.v = e.v)))
def Rok (P : Program) (tt : TT) (X : Given) (n : Nat) (ops : Array Oper) (t0 : Tmps) (b0 : Boxes) : Option V → List Rec → Prop
  | p, [] => p = none
  | p, r :: rs => r.i = rs.length ∧ RunsAt P tt X n ops p r (tOf ops top t0 rs) (bOf top b0 rs) ∧ Rok P tt X n ops t0 b0 none rs
theorem Rok.lt : ∀ {p : Option V} {full : List Rec}, Rok P tt X n ops t0 b0 p full → ∀ r ∈ full, r.i < full.length
  | _, [], _, r, h => by cases h
  | _, h :: rs, ⟨h1, h2, h3⟩, r, hr => by
    rcases List.mem_cons.1 hr with rfl | h4
    · simp; omega
    · have := Rok.lt h3 r h4; simp; omega
theorem evD_spec : ∀ (os : List Oper) (i : Nat) (t : Tmps) (b : Boxes) (rs rs' : List Rec) (p : Option V) (σ : St), ops.toList.drop i = os → i ≤ ops.size → rs.length = i → t = tOf ops top t0 rs → b = bOf top b0 rs → Rok P tt X n ops t0 b0 none rs →
    DenN P tt X n (List Rec × Option V × St) (evD tt ops os i t b rs) (rs', p, σ) →
    Rok P tt X n ops t0 b0 p rs' ∧ σ.b = bOf top b0 rs' ∧ (p = none → σ.t = tOf ops top t0 rs' ∧ rs'.length = ops.size) ∧ rs'.length ≤ ops.size
  | [], i, t, b, rs, rs', p, σ, hos, hi, hl, ht, hb, hR, h => by
    have := den_leaf h
    simp only [Prod.mk.injEq] at this
    obtain ⟨rfl, rfl, rfl⟩ := this
    have : ops.size ≤ i := by
      have := congrArg List.length hos
      simp at this; omega
    exact ⟨hR, hb, fun _ => ⟨ht, by omega⟩, by omega⟩
  | o :: os, i, t, b, rs, rs', p, σ, hos, hi, hl, ht, hb, hR, h => by
    have hlt : i < ops.size := by
      have := congrArg List.length hos
      simp at this; omega
    have ho : ops[i]? = some o := by
      rw [← Array.getElem?_toList]
      have := congrArg (·[0]?) hos
      simpa using this
    have hos' : ops.toList.drop (i + 1) = os := by
      have := congrArg List.tail hos
      simpa using this
    have hdst : dstAt ops i = o.dst := by simp [dstAt, ho]
    obtain ⟨q, h1, h2⟩ := den_bind h
    cases q with
    | false =>
      refine evD_spec os (i + 1) _ _ (⟨i, .skip, [], [], [], niceAll t (o.looksAt ops)⟩ :: rs) rs' p σ hos' (by omega) (by simp [hl]) ?_ ?_ ⟨hl.symm, ⟨o, ho, by rw [← ht], .inl ⟨by rw [← ht]; exact h1, rfl, rfl, rfl, rfl⟩⟩, hR⟩ h2
      · rw [ht]; simp [tOf, top, hdst, scT]
      · rw [hb]; rfl
    | true =>
      have h2' := h2
      change DenN P tt X n _ (forceNs _ _) _ at h2'
      rw [forceNs_eq] at h2'
      obtain ⟨⟨pv, e⟩, h3, h4⟩ := den_bind h2'
      cases pv with
      | none =>
        change DenN P tt X n _ (forceV _ _) _ at h4
        rw [forceV_eq, forceB_eq, scE_eq] at h4
        refine evD_spec os (i + 1) _ _ (⟨i, e.v, e.wr, footB tt o (St.ev ⟨t, b⟩) (getB b), e.scr, niceAll t (o.looksAt ops)⟩ :: rs) rs' p σ hos' (by omega) (by simp [hl]) ?_ ?_ ⟨hl.symm, ⟨o, ho, by rw [← ht], .inr ⟨by rw [← ht]; exact h1, by rw [← ht, ← hb], e, by rw [← ht, ← hb]; exact h3, rfl, rfl, fun _ => rfl⟩⟩, hR⟩ h4
        · rw [ht]; simp [tOf, top, hdst]
        · rw [hb]; simp [bOf, top]
      | some u =>
        change DenN P tt X n _ (forceB _ _) _ at h4
        rw [forceB_eq, scE_eq] at h4
        have := den_leaf h4
        simp only [Prod.mk.injEq] at this
        obtain ⟨rfl, rfl, rfl⟩ := this
        refine ⟨⟨by simp [hl], ⟨o, ho, by rw [← ht], .inr ⟨by rw [← ht]; exact h1, by rw [← ht, ← hb], e, by rw [← ht, ← hb]; exact h3, rfl, rfl, fun hp => by cases hp⟩⟩, hR⟩, ?_, fun hp => (by cases hp), by simp [hl]; omega⟩
        rw [hb]; simp [bOf, top]
theorem getT_putT {d : Option Nat} {v : V} {t : Tmps} {j : Nat} : getT (putT d v t) j = if d = some j then v else getT t j := by
  cases d with
  | none => simp [putT]
  | some d => simp only [putT, getT_put, Option.some.injEq]
theorem tOf_congr {l l' : Nat → Bool} {d : Nat} : ∀ {rs : List Rec}, (∀ s ∈ rs, dstAt ops s.i = some d ∨ s.sc ≠ [] → l s.i = l' s.i) → getT (tOf ops l t0 rs) d = getT (tOf ops l' t0 rs) d
  | [], _ => rfl
  | r :: rs, h => by
    have ih := tOf_congr (rs := rs) (fun s hs => h s (List.mem_cons_of_mem _ hs))
    have h0 := h r (List.mem_cons_self ..)
    simp only [tOf]
    by_cases hd : dstAt ops r.i = some d ∨ r.sc ≠ []
    · rw [h0 hd]
      split
      · rw [getT_putT, getT_putT, getT_scT, getT_scT, ih]
      · exact ih
    · have hd1 : ¬ dstAt ops r.i = some d := fun e => hd (.inl e)
      have hsc : r.sc = [] := Decidable.byContradiction fun e => hd (.inr e)
      rw [hsc]
      split <;> split <;> (try rw [getT_putT, if_neg hd1, getT_scT, scV_nil]) <;> (try rw [getT_putT, if_neg hd1, getT_scT, scV_nil]) <;> exact ih
theorem scV_nice {sc : List Tok} {v : V} (h : nice (scV sc v) = true) : scV sc v = v ∧ nice v = true := by
  cases v <;> first | exact ⟨rfl, h⟩ | skip
  rename_i t n es
  exfalso
  simp only [scV] at h
  split at h <;> cases h
theorem scV_of_nice {sc : List Tok} {v : V} (h : nice v = true) : scV sc v = v := by cases v <;> first | rfl | cases h
theorem tOf_nice {l l' : Nat → Bool} {d : Nat} : ∀ {rs : List Rec}, nice (getT (tOf ops l' t0 rs) d) = true → (∀ s ∈ rs, dstAt ops s.i = some d → l s.i = l' s.i) → getT (tOf ops l t0 rs) d = getT (tOf ops l' t0 rs) d
  | [], _, _ => rfl
  | r :: rs, hn, h => by
    have ih := tOf_nice (l := l) (l' := l') (d := d) (rs := rs)
    have h0 := h r (List.mem_cons_self ..)
    have h1 := fun s hs => h s (List.mem_cons_of_mem r hs)
    simp only [tOf] at hn ⊢
    by_cases hd : dstAt ops r.i = some d
    · rw [h0 hd] at *
      split
      · rw [getT_putT, getT_putT, if_pos hd, if_pos hd]
      · rename_i hf
        rw [if_neg hf] at hn
        exact ih hn h1
    · have hn' : nice (getT (tOf ops l' t0 rs) d) = true := by
        split at hn
        · rw [getT_putT, if_neg hd, getT_scT] at hn; exact (scV_nice hn).2
        · exact hn
      have e := ih hn' h1
      split <;> split <;> (try rw [getT_putT, if_neg hd, getT_scT]) <;> (try rw [getT_putT, if_neg hd, getT_scT]) <;> (try rw [e]) <;> (try rw [scV_of_nice hn']) <;> (try rw [scV_of_nice hn'])
theorem bOf_congr {l l' : Nat → Bool} {q : Nat} : ∀ {rs : List Rec}, (∀ s ∈ rs, getB s.wr q ≠ none ∨ s.sc ≠ [] → l s.i = l' s.i) → getB (bOf l b0 rs) q = getB (bOf l' b0 rs) q
  | [], _ => rfl
  | r :: rs, h => by
    have ih := bOf_congr (rs := rs) (fun s hs => h s (List.mem_cons_of_mem _ hs))
    have h0 := h r (List.mem_cons_self ..)
    simp only [bOf]
    by_cases hd : getB r.wr q ≠ none ∨ r.sc ≠ []
    · rw [h0 hd]
      split
      · rw [getB_cat, getB_cat, getB_scB, getB_scB, ih]
      · exact ih
    · have hd1 : getB r.wr q = none := Decidable.byContradiction fun e => hd (.inl e)
      have hsc : r.sc = [] := Decidable.byContradiction fun e => hd (.inr e)
      rw [hsc]
      split <;> split <;> (try rw [getB_cat, hd1, getB_scB, getB_sc0]) <;> (try rw [getB_cat, hd1, getB_scB, getB_sc0]) <;> exact ih
/-- an operation's record, with the state that it ran in -/
theorem Rok.get : ∀ {p : Option V} {full : List Rec}, Rok P tt X n ops t0 b0 p full → ∀ i, i < full.length → ∃ r ∈ full, r.i = i ∧ ∃ p' t b, RunsAt P tt X n ops p' r t b ∧ (p' = none ∨ p' = p ∧ i + 1 = full.length) ∧ (i + 1 = full.length → p' = p) ∧
    (∀ (l : Nat → Bool) d, (∀ s ∈ full, dstAt ops s.i = some d ∨ s.sc ≠ [] → (l s.i = true ↔ s.i < i)) → getT (tOf ops l t0 full) d = getT t d) ∧
    (∀ (l : Nat → Bool) d, nice (getT t d) = true → (∀ s ∈ full, dstAt ops s.i = some d → (l s.i = true ↔ s.i < i)) → getT (tOf ops l t0 full) d = getT t d) ∧
    (∀ (l : Nat → Bool) q, (∀ s ∈ full, getB s.wr q ≠ none ∨ s.sc ≠ [] → (l s.i = true ↔ s.i < i)) → getB (bOf l b0 full) q = getB b q)
  | p, [], _, i, h => by simp at h
  | p, r :: rs, ⟨h1, h2, h3⟩, i, hi => by
    have hlt := Rok.lt h3
    by_cases e : i = rs.length
    · subst e
      refine ⟨r, List.mem_cons_self .., h1, p, _, _, h2, .inr ⟨rfl, by simp⟩, fun _ => rfl, fun l d hl => ?_, fun l d hn hl => ?_, fun l q hl => ?_⟩
      · have h0 := hl r (List.mem_cons_self ..)
        have hrest : getT (tOf ops l t0 rs) d = getT (tOf ops top t0 rs) d := tOf_congr fun s hs hd => by
          have := (hl s (List.mem_cons_of_mem _ hs) hd).2 (hlt s hs)
          rw [this]; rfl
        simp only [tOf]
        split
        · rename_i hlr
          by_cases hd : dstAt ops r.i = some d ∨ r.sc ≠ []
          · have := (h0 hd).1 hlr; omega
          · have hd1 : ¬ dstAt ops r.i = some d := fun e => hd (.inl e)
            have hsc : r.sc = [] := Decidable.byContradiction fun e => hd (.inr e)
            rw [getT_putT, if_neg hd1, hsc, getT_scT, scV_nil]; exact hrest
        · exact hrest
      · have h0 := hl r (List.mem_cons_self ..)
        have hrest : getT (tOf ops l t0 rs) d = getT (tOf ops top t0 rs) d := tOf_nice hn fun s hs hd => by
          have := (hl s (List.mem_cons_of_mem _ hs) hd).2 (hlt s hs)
          rw [this]; rfl
        simp only [tOf]
        split
        · rename_i hlr
          by_cases hd1 : dstAt ops r.i = some d
          · have := (h0 hd1).1 hlr; omega
          · rw [getT_putT, if_neg hd1, getT_scT, hrest, scV_of_nice hn]
        · exact hrest
      · have h0 := hl r (List.mem_cons_self ..)
        have hrest : getB (bOf l b0 rs) q = getB (bOf top b0 rs) q := bOf_congr fun s hs hd => by
          have := (hl s (List.mem_cons_of_mem _ hs) hd).2 (hlt s hs)
          rw [this]; rfl
        simp only [bOf]
        split
        · rename_i hlr
          by_cases hd : getB r.wr q ≠ none ∨ r.sc ≠ []
          · have := (h0 hd).1 hlr; omega
          · have hd1 : getB r.wr q = none := Decidable.byContradiction fun e => hd (.inl e)
            have hsc : r.sc = [] := Decidable.byContradiction fun e => hd (.inr e)
            rw [getB_cat, hd1, hsc, getB_scB, getB_sc0]; exact hrest
        · exact hrest
    · have hi' : i < rs.length := by simp at hi; omega
      obtain ⟨s, hs, hsi, p', t, b, g1, g2, g2', g3, g3', g4⟩ := Rok.get h3 i hi'
      have hp' : p' = none := by rcases g2 with g2 | g2; exact g2; exact g2.1
      refine ⟨s, List.mem_cons_of_mem _ hs, hsi, p', t, b, g1, .inl hp', fun he => by simp at he; omega, fun l d hl => ?_, fun l d hn hl => ?_, fun l q hl => ?_⟩
      · have h0 := hl r (List.mem_cons_self ..)
        have hrest := g3 l d (fun s hs => hl s (List.mem_cons_of_mem _ hs))
        simp only [tOf]
        split
        · rename_i hlr
          by_cases hd : dstAt ops r.i = some d ∨ r.sc ≠ []
          · have := (h0 hd).1 hlr; omega
          · have hd1 : ¬ dstAt ops r.i = some d := fun e => hd (.inl e)
            have hsc : r.sc = [] := Decidable.byContradiction fun e => hd (.inr e)
            rw [getT_putT, if_neg hd1, hsc, getT_scT, scV_nil]; exact hrest
        · exact hrest
      · have h0 := hl r (List.mem_cons_self ..)
        have hrest := g3' l d hn (fun s hs => hl s (List.mem_cons_of_mem _ hs))
        simp only [tOf]
        split
        · rename_i hlr
          by_cases hd1 : dstAt ops r.i = some d
          · have := (h0 hd1).1 hlr; omega
          · rw [getT_putT, if_neg hd1, getT_scT, hrest, scV_of_nice hn]
        · exact hrest
      · have h0 := hl r (List.mem_cons_self ..)
        have hrest := g4 l q (fun s hs => hl s (List.mem_cons_of_mem _ hs))
        simp only [bOf]
        split
        · rename_i hlr
          by_cases hd : getB r.wr q ≠ none ∨ r.sc ≠ []
          · have := (h0 hd).1 hlr; omega
          · have hd1 : getB r.wr q = none := Decidable.byContradiction fun e => hd (.inl e)
            have hsc : r.sc = [] := Decidable.byContradiction fun e => hd (.inr e)
            rw [getB_cat, hd1, hsc, getB_scB, getB_sc0]; exact hrest
        · exact hrest
theorem scV_comm (a b : List Tok) (v : V) : scV a (scV b v) = scV b (scV a v) := by
  cases v <;> first | rfl | skip
  rename_i t n es
  simp only [scV]
  cases h1 : memK t a <;> cases h2 : memK t b <;> simp [scV, h1, h2]
theorem scVs_comm (a b : List Tok) : ∀ vs : List V, scVs a (scVs b vs) = scVs b (scVs a vs)
  | [] => rfl
  | v :: r => by rw [scVs, scVs, scVs, scVs, scV_comm, scVs_comm a b r]
/-- the state with one more -/
theorem tOf_add {l l' : Nat → Bool} {i d : Nat} {r : Rec} {p : Option V} : ∀ {full : List Rec}, Rok P tt X n ops t0 b0 p full → r ∈ full → r.i = i → (∀ k, l' k = true ↔ (l k = true ∨ k = i)) → l i = false →
    (∀ s ∈ full, i < s.i → l s.i = true → (dstAt ops i ≠ none → dstAt ops s.i ≠ dstAt ops i) ∧ scV r.sc s.v = s.v ∧ scV s.sc r.v = r.v) → getT (tOf ops l' t0 full) d = getT (putT (dstAt ops i) r.v (scT r.sc (tOf ops l t0 full))) d
  | [], _, hr, _, _, _, _ => by cases hr
  | h :: rs, hR, hr, hri, hl', hli, hs => by
    obtain ⟨h1, h2, h3⟩ := hR
    have hlt := Rok.lt h3
    have hb : ∀ k, k ≠ i → l' k = l k := fun k hk => by
      have := hl' k
      cases h5 : l' k <;> cases h6 : l k <;> simp_all
    rcases List.mem_cons.1 hr with rfl | hr'
    · have hl1 : l' r.i = true := (hl' _).2 (.inr hri)
      have hl2 : ¬ l r.i = true := by rw [hri, hli]; simp
      simp only [tOf]
      rw [if_pos hl1, if_neg hl2, hri]
      have e : getT (tOf ops l' t0 rs) d = getT (tOf ops l t0 rs) d := tOf_congr fun s hs' _ => hb s.i (by have := hlt s hs'; omega)
      rw [getT_putT, getT_putT, getT_scT, getT_scT, e]
    · have hgt : i < h.i := by have := hlt r hr'; omega
      have ih := tOf_add (d := d) h3 hr' hri hl' hli (fun s hs' => hs s (List.mem_cons_of_mem _ hs'))
      have h0 := hs h (List.mem_cons_self ..) hgt
      simp only [tOf]
      rw [hb h.i (by omega)]
      split
      · rename_i hlh
        obtain ⟨a1, a2, a3⟩ := h0 hlh
        rw [getT_putT, getT_scT, ih]
        by_cases hdh : dstAt ops h.i = some d
        · rw [if_pos hdh, getT_putT]
          by_cases hdi : dstAt ops i = some d
          · exact absurd (hdh.trans hdi.symm) (a1 (by rw [hdi]; simp))
          · rw [if_neg hdi, getT_scT, getT_putT, if_pos hdh, a2]
        · rw [if_neg hdh]
          by_cases hdi : dstAt ops i = some d
          · rw [getT_putT, if_pos hdi, getT_putT, if_pos hdi, a3]
          · rw [getT_putT, if_neg hdi, getT_putT, if_neg hdi, getT_scT, getT_scT, getT_putT, if_neg hdh, getT_scT, scV_comm]
      · exact ih
theorem bOf_add {l l' : Nat → Bool} {i q : Nat} {r : Rec} {p : Option V} : ∀ {full : List Rec}, Rok P tt X n ops t0 b0 p full → r ∈ full → r.i = i → (∀ k, l' k = true ↔ (l k = true ∨ k = i)) → l i = false →
    (∀ s ∈ full, i < s.i → l s.i = true → (getB s.wr q ≠ none → getB r.wr q = none) ∧ (∀ cs, getB s.wr q = some cs → scVs r.sc cs = cs) ∧ ∀ cs, getB r.wr q = some cs → scVs s.sc cs = cs) → getB (bOf l' b0 full) q = getB (catB r.wr (scB r.sc (bOf l b0 full))) q
  | [], _, hr, _, _, _, _ => by cases hr
  | h :: rs, hR, hr, hri, hl', hli, hs => by
    obtain ⟨h1, h2, h3⟩ := hR
    have hlt := Rok.lt h3
    have hb : ∀ k, k ≠ i → l' k = l k := fun k hk => by
      have := hl' k
      cases h5 : l' k <;> cases h6 : l k <;> simp_all
    rcases List.mem_cons.1 hr with rfl | hr'
    · have hl1 : l' r.i = true := (hl' _).2 (.inr hri)
      have hl2 : ¬ l r.i = true := by rw [hri, hli]; simp
      simp only [bOf]
      rw [if_pos hl1, if_neg hl2]
      have e : getB (bOf l' b0 rs) q = getB (bOf l b0 rs) q := bOf_congr fun s hs' _ => hb s.i (by have := hlt s hs'; omega)
      rw [getB_cat, getB_cat, getB_scB, getB_scB, e]
    · have hgt : i < h.i := by have := hlt r hr'; omega
      have ih := bOf_add (q := q) h3 hr' hri hl' hli (fun s hs' => hs s (List.mem_cons_of_mem _ hs'))
      have h0 := hs h (List.mem_cons_self ..) hgt
      simp only [bOf]
      rw [hb h.i (by omega)]
      split
      · rename_i hlh
        obtain ⟨a1, a2, a3⟩ := h0 hlh
        rw [getB_cat, getB_scB, ih, getB_cat, getB_cat, getB_scB, getB_scB, getB_cat, getB_scB]
        cases hh : getB h.wr q with
        | some cs =>
          rw [a1 (by rw [hh]; simp)]
          show some cs = some (scVs r.sc cs)
          rw [a2 cs hh]
        | none =>
          cases hr2 : getB r.wr q with
          | some cs =>
            show some (scVs h.sc cs) = some cs
            rw [a3 cs hr2]
          | none =>
            simp only [Option.map_map]
            cases getB (bOf l b0 rs) q with
            | none => rfl
            | some cs => exact congrArg some (scVs_comm _ _ cs)
      · exact ih
/-! ### what comes behind what -/
def DC (ops : Array Oper) (l : Nat → Bool) : Prop := ∀ i o, l i = true → ops[i]? = some o → ∀ e ∈ o.after, Region.binds .any e = true → l e.on = true
theorem anyEdge_spec {acc : List Nat} : ∀ {es : List Edge}, anyEdge acc es = true → ∃ e ∈ es, Region.binds .any e = true ∧ e.on ∈ acc
  | [], h => by cases h
  | e :: r, h => by
    simp only [anyEdge, Bool.or_eq_true, Bool.and_eq_true] at h
    rcases h with ⟨h1, h2⟩ | h
    · exact ⟨e, List.mem_cons_self .., h1, memN_iff.1 h2⟩
    · obtain ⟨e', a1, a2⟩ := anyEdge_spec h
      exact ⟨e', List.mem_cons_of_mem _ a1, a2⟩
theorem reachGo_spec {l : Nat → Bool} (hl : DC ops l) {i : Nat} : ∀ (os : List Oper) (k : Nat) (acc : List Nat), ops.toList.drop k = os → (∀ j ∈ acc, l j = true → l i = true) → ∀ j ∈ reachGo os k acc, l j = true → l i = true
  | [], k, acc, _, h => h
  | o :: os, k, acc, hos, h => by
    have ho : ops[k]? = some o := by
      rw [← Array.getElem?_toList]
      have := congrArg (·[0]?) hos
      simpa using this
    have hos' : ops.toList.drop (k + 1) = os := by
      have := congrArg List.tail hos
      simpa using this
    simp only [reachGo]
    split
    · rename_i he
      refine reachGo_spec hl os (k + 1) _ hos' (fun j hj hlj => ?_)
      rcases List.mem_cons.1 hj with rfl | hj
      · obtain ⟨e, e1, e2, e3⟩ := anyEdge_spec he
        exact h _ e3 (hl j o hlj ho e (Array.mem_toList_iff.1 e1) e2)
      · exact h j hj hlj
    · exact reachGo_spec hl os (k + 1) acc hos' h
theorem reach_spec {l : Nat → Bool} (hl : DC ops l) {i j : Nat} (hj : memN j (reach ops i) = true) (hlj : l j = true) : l i = true :=
  reachGo_spec hl _ _ _ rfl (fun k hk hlk => by simp at hk; subst hk; exact hlk) j (memN_iff.1 hj) hlj
theorem hasEdge_spec {l : Nat → Bool} (hl : DC ops l) {i p : Nat} (h : hasEdge ops i p = true) (hi : l i = true) : l p = true := by
  unfold hasEdge at h
  split at h
  · rename_i o ho
    obtain ⟨e, e1, e2⟩ := List.any_eq_true.1 h
    simp only [Bool.and_eq_true] at e2
    have := hl i o hi ho e (Array.mem_toList_iff.1 e1) e2.1
    rw [← Nat.eq_of_beq_eq_true e2.2]; exact this
  · cases h
theorem statFrom_spec {q : Oper} {i : Nat} : ∀ {os : List Oper} {k : Nat}, ops.toList.drop k = os → statFrom ops q i os k = true → ∀ p o, k ≤ p → p < i → ops[p]? = some o → statPair ops p i o q = true
  | [], k, hos, _, p, o, hkp, hpi, ho => by
    have : ops.size ≤ k := by
      have := congrArg List.length hos
      simp at this; omega
    rw [Array.getElem?_eq_none (by omega)] at ho; cases ho
  | o' :: os, k, hos, h, p, o, hkp, hpi, ho => by
    have hok : ops[k]? = some o' := by
      rw [← Array.getElem?_toList]
      have := congrArg (·[0]?) hos
      simpa using this
    have hos' : ops.toList.drop (k + 1) = os := by
      have := congrArg List.tail hos
      simpa using this
    simp only [statFrom, Bool.and_eq_true] at h
    by_cases e : k = p
    · subst e
      rw [hok] at ho; cases ho
      have h1 := h.1
      rw [show Nat.blt k i = true from Nat.ble_eq_true_of_le hpi] at h1
      exact h1
    · exact statFrom_spec hos' h.2 p o (by omega) hpi ho
theorem statGo_spec : ∀ {os : List Oper} {k : Nat}, ops.toList.drop k = os → statGo ops os k = true → ∀ i q, k ≤ i → ops[i]? = some q → (∀ e ∈ q.after, Region.binds .any e = true → e.on < i) ∧ ∀ p o, p < i → ops[p]? = some o → statPair ops p i o q = true
  | [], k, hos, _, i, q, hk, hq => by
    have : ops.size ≤ k := by
      have := congrArg List.length hos
      simp at this; omega
    rw [Array.getElem?_eq_none (by omega)] at hq; cases hq
  | o' :: os, k, hos, h, i, q, hk, hq => by
    have hok : ops[k]? = some o' := by
      rw [← Array.getElem?_toList]
      have := congrArg (·[0]?) hos
      simpa using this
    have hos' : ops.toList.drop (k + 1) = os := by
      have := congrArg List.tail hos
      simpa using this
    simp only [statGo, Bool.and_eq_true] at h
    by_cases e : k = i
    · subst e
      rw [hok] at hq; cases hq
      refine ⟨fun e he hb => ?_, fun p o hp ho => statFrom_spec rfl h.1.2 p o (Nat.zero_le _) hp ho⟩
      have := List.all_eq_true.1 h.1.1 e (Array.mem_toList_iff.2 he)
      rw [hb] at this
      exact Nat.le_of_ble_eq_true (show Nat.blt e.on k = true from by simpa only [Bool.not_true, Bool.false_or] using this)
    · exact statGo_spec hos' h.2 i q (by omega) hq
theorem statOk_spec (h : statOk ops = true) {i : Nat} {q : Oper} (hq : ops[i]? = some q) : (∀ e ∈ q.after, Region.binds .any e = true → e.on < i) ∧ ∀ p o, p < i → ops[p]? = some o → statPair ops p i o q = true :=
  statGo_spec (k := 0) rfl h i q (Nat.zero_le _) hq
theorem inOpt_iff {d : Nat} {l : List Nat} : inOpt (some d) l = true ↔ d ∈ l := memN_iff
/-- where a pair meets there is an edge -/
theorem pair_edge (h : statOk ops = true) {p i : Nat} {o q : Oper} (hp : ops[p]? = some o) (hq : ops[i]? = some q) (hlt : p < i) : (∀ d, o.dst = some d → d ∈ q.looksAt ops ∨ q.dst = some d → hasEdge ops i p = true) ∧ ∀ d, q.dst = some d → d ∈ o.looksAt ops → hasEdge ops i p = true := by
  have h1 := (statOk_spec h hq).2 p o hlt hp
  unfold statPair at h1
  simp only [Bool.or_eq_true, Bool.not_eq_true'] at h1
  refine ⟨fun d hd hm => ?_, fun d hd hm => ?_⟩
  · rcases h1 with h1 | h1
    · rw [hd] at h1
      simp only [Bool.or_eq_false_iff] at h1
      rcases hm with hm | hm
      · rw [inOpt_iff.2 hm] at h1; cases h1.1.1
      · rw [hm] at h1
        have : eqOpt (some d) (some d) = true := Nat.beq_refl d
        rw [this] at h1; cases h1.1.2
    · exact h1
  · rcases h1 with h1 | h1
    · rw [hd] at h1
      simp only [Bool.or_eq_false_iff] at h1
      rw [inOpt_iff.2 hm] at h1; cases h1.2
    · exact h1
end
end Go.Proofs.YtacfbgfphkfobaaGreatDoor.Id
/-! ## IdealV -/
namespace Go.Proofs.YtacfbgfphkfobaaGreatDoor.Id
open Go
set_option linter.unusedSectionVars false
set_option linter.unusedVariables false
set_option linter.unusedSimpArgs false
section
variable {I : World → Prop} {B0 : Nat} {M : Nat → Prop} {P : Program} {tt : TT} {X : Given} {n nt : Nat} {x : Aux} {t : Tmps} {b : Boxes} {a : Act} {w : World} {ops : Array Oper} {t0 : Tmps} {b0 : Boxes}
variable [Ds]
theorem getB_key : ∀ {b : Boxes} {q : Nat}, getB b q ≠ none → ∃ z ∈ b, z.1 = q
  | [], q, h => absurd rfl h
  | (j, v) :: r, q, h => by
    simp only [getB] at h
    split at h
    · rename_i e; exact ⟨(j, v), List.mem_cons_self .., Nat.eq_of_beq_eq_true e⟩
    · obtain ⟨z, h1, h2⟩ := getB_key h; exact ⟨z, List.mem_cons_of_mem _ h1, h2⟩
theorem getB_mem : ∀ {b : Boxes} {q : Nat} {cs : List V}, getB b q = some cs → (q, cs) ∈ b
  | [], q, cs, h => by cases h
  | (j, v) :: r, q, cs, h => by
    simp only [getB] at h
    split at h
    · rename_i e; cases h; rw [Nat.eq_of_beq_eq_true e]; exact List.mem_cons_self ..
    · exact List.mem_cons_of_mem _ (getB_mem h)
theorem meets_of {r p : Rec} {q : Nat} (hq : q ∈ r.ft) (hp : getB p.wr q ≠ none) : meets r p = true := by
  obtain ⟨z, h1, h2⟩ := getB_key hp
  refine List.any_eq_true.2 ⟨q, hq, List.any_eq_true.2 ⟨z, h1, ?_⟩⟩
  rw [h2]; exact Nat.beq_refl q
theorem scV_says {f : V → Bool} (hf : f .undef = false) {sc : List Tok} {v : V} (h : f v = false) : f (scV sc v) = false := by
  cases v <;> first | exact h | skip
  rename_i t n es
  simp only [scV]
  split
  · exact hf
  · exact h
theorem tOf_says {l : Nat → Bool} {f : V → Bool} (hf : f .undef = false) (h0 : ∀ i, f (getT t0 i) = false) : ∀ {full : List Rec}, (∀ s ∈ full, l s.i = true → f s.v = false) → ∀ i, f (getT (tOf ops l t0 full) i) = false
  | [], _, i => h0 i
  | r :: rs, h, i => by
    have ih := tOf_says hf h0 (fun s hs => h s (List.mem_cons_of_mem _ hs)) i
    simp only [tOf]
    split
    · rename_i hl
      rw [getT_putT]
      split
      · exact h r (List.mem_cons_self ..) hl
      · rw [getT_scT]; exact scV_says hf ih
    · exact ih
theorem bOf_says {l : Nat → Bool} {f : List V → Bool} (hf : ∀ sc cs, f cs = false → f (scVs sc cs) = false) (h0 : ∀ i cs, getB b0 i = some cs → f cs = false) : ∀ {full : List Rec}, (∀ s ∈ full, l s.i = true → ∀ i cs, (i, cs) ∈ s.wr → f cs = false) → ∀ i cs, getB (bOf l b0 full) i = some cs → f cs = false
  | [], _, i, cs, hc => h0 i cs hc
  | r :: rs, h, i, cs, hc => by
    have ih := bOf_says hf h0 (fun s hs => h s (List.mem_cons_of_mem _ hs)) i
    simp only [bOf] at hc
    split at hc
    · rename_i hl
      rw [getB_cat] at hc
      cases hr : getB r.wr i with
      | some cs' => rw [hr] at hc; cases hc; exact h r (List.mem_cons_self ..) hl i _ (getB_mem hr)
      | none =>
        rw [hr] at hc
        simp only [getB_scB] at hc
        cases hb : getB (bOf l b0 rs) i with
        | none => rw [hb] at hc; cases hc
        | some c0 => rw [hb] at hc; cases hc; exact hf _ _ (ih c0 hb)
    · exact ih cs hc
theorem scVs_hasBoxes {d : Nat} (sc : List Tok) : ∀ cs : List V, hasBoxes d cs = false → hasBoxes d (scVs sc cs) = false
  | [], h => h
  | v :: r, h => by
    simp only [hasBoxes, Bool.or_eq_false_iff] at h
    simp only [scVs, hasBoxes, scV_says (f := hasBox d) rfl h.1, scVs_hasBoxes sc r h.2, Bool.or_self]
theorem scVs_anyTok {k : Tok} (sc : List Tok) : ∀ cs : List V, anyTok k cs = false → anyTok k (scVs sc cs) = false
  | [], h => h
  | v :: r, h => by
    simp only [anyTok, Bool.or_eq_false_iff] at h
    simp only [scVs, anyTok, scV_says (f := isTok k) rfl h.1, scVs_anyTok sc r h.2, Bool.or_self]
theorem scV_untok {sc : List Tok} {v : V} (h : ∀ k ∈ sc, isTok k v = false) : scV sc v = v := by
  cases v <;> first | rfl | skip
  rename_i t n es
  have : memK t sc = false := by
    rw [← Bool.not_eq_true, memK_iff]
    intro hm
    have h1 : eqTok t t = false := h t hm
    rw [eqTok_iff.2 rfl] at h1; cases h1
  simp only [scV, this]
theorem scVs_untok {sc : List Tok} : ∀ {vs : List V}, (∀ k ∈ sc, anyTok k vs = false) → scVs sc vs = vs
  | [], _ => rfl
  | v :: r, h => by
    have h1 : ∀ k ∈ sc, isTok k v = false ∧ anyTok k r = false := fun k hk => by have := h k hk; simp only [anyTok, Bool.or_eq_false_iff] at this; exact this
    rw [scVs, scV_untok fun k hk => (h1 k hk).1, scVs_untok fun k hk => (h1 k hk).2]
theorem niceAll_mem {t : Tmps} : ∀ {l : List Nat}, niceAll t l = true → ∀ d ∈ l, nice (getT t d) = true
  | [], _, d, hd => by cases hd
  | e :: r, h, d, hd => by
    simp only [niceAll] at h
    split at h
    · rename_i hn
      rcases List.mem_cons.1 hd with rfl | hd
      · exact hn
      · exact niceAll_mem h d hd
    · cases h
theorem any_ok (hnd : Ds.nd = false) (htt : TTok P tt) (hI : Stable I B0) (hX : GivenOK P X I B0) (hB : Below P tt X I B0 n) (hnb : nt ≤ base) (hd : ∀ (i : Nat) (o : Oper), ops[i]? = some o → ∀ d, o.dst = some d → d < nt) (hst : statOk ops = true) {p : Option V} {full : List Rec} (hdyn : dynOk ops full p.isSome = true)
    (hR : Rok P tt X n ops t0 b0 p full) (hlen : p = none → full.length = ops.size) (hle : full.length ≤ ops.size)
    (hnew : ∀ (i : Nat) (o : Oper) (d : Nat), ops[i]? = some o → o.dst = some d → (isNew o.op = true → (∀ i, hasBox d (getT t0 i) = false) ∧ ∀ i cs, getB b0 i = some cs → hasBoxes d cs = false) ∧ (isRow o.op = true → (∀ i, isTok (d, here) (getT t0 i) = false) ∧ ∀ i cs, getB b0 i = some cs → anyTok (d, here) cs = false))
    {σ : St} (hσt : p = none → σ.t = tOf ops top t0 full) (hσb : σ.b = bOf top b0 full) {x0 : Aux} {w0 : World} :
    ∀ (fuel : Nat) (listed : Array Bool) (x : Aux) (a : Act) (w : World), listed.size = ops.size → DC ops (fun i => listed.getD i false) → listed.toList.count false ≤ fuel → (∀ u r rs, p = some u → full = r :: rs → listed.getD r.i false = false) →
      Sim I B0 M nt x (tOf ops (fun i => listed.getD i false) t0 full) (bOf (fun i => listed.getD i false) b0 full) a w → Ext M x0 w0 x w →
      wpAny P .any ops (Behind I B0 M nt x0 w0 (exOf p) σ) fuel listed a w := by
  simp only [dynOk, Bool.and_eq_true, Bool.or_eq_true, Bool.not_eq_true'] at hdyn
  obtain ⟨⟨⟨hpair, hrest⟩, hpan⟩, hscall⟩ := hdyn
  have hsc' : ∀ q ∈ full, endsOk ops full q = true := fun q hq => List.all_eq_true.1 hscall q hq
  have hpair' : ∀ r ∈ full, ∀ s ∈ full, pairOk ops r s = true := fun r hr s hs => List.all_eq_true.1 (List.all_eq_true.1 hpair r hr) s hs
  have hnew' : ∀ r ∈ full, newOk ops full r = true := fun r hr => by
    have := List.all_eq_true.1 hrest r hr
    simp only [Bool.and_eq_true] at this; exact this.1
  have hwr : ∀ r ∈ full, ∀ q, getB r.wr q ≠ none → q ∈ r.ft := fun r hr q hq => by
    have := List.all_eq_true.1 hrest r hr
    simp only [Bool.and_eq_true] at this
    obtain ⟨z, h1, h2⟩ := getB_key hq
    have h3 := List.all_eq_true.1 this.2 z h1
    rw [h2] at h3; exact memN_iff.1 h3
  have hops : ∀ i, i < ops.size → ∃ o, ops[i]? = some o := fun i hi => ⟨ops[i], Array.getElem?_eq_getElem hi⟩
  -- all is listed: the end
  have hend : ∀ (listed : Array Bool) (x : Aux) (a : Act) (w : World), listed.size = ops.size → (∀ i, i < ops.size → listed.getD i false = true) → (∀ u r rs, p = some u → full = r :: rs → listed.getD r.i false = false) →
      Sim I B0 M nt x (tOf ops (fun i => listed.getD i false) t0 full) (bOf (fun i => listed.getD i false) b0 full) a w → Ext M x0 w0 x w →
      Behind I B0 M nt x0 w0 (exOf p) σ .normal a w := fun listed x a w hls hall hpn S hE => by
    cases hp : p with
    | some u =>
      exfalso
      cases hf : full with
      | nil => rw [hf, hp] at hR; cases hR
      | cons r rs =>
        have h1 := hpn u r rs hp hf
        have h2 := Rok.lt hR r (by rw [hf]; exact List.mem_cons_self ..)
        rw [hall r.i (by omega)] at h1; cases h1
    | none =>
      have hlt : ∀ s ∈ full, listed.getD s.i false = true := fun s hs => hall s.i (by have := Rok.lt hR s hs; omega)
      have S' : Sim I B0 M nt x σ.t σ.b a w := S.same (fun i => by rw [hσt hp]; exact tOf_congr fun s hs _ => (hlt s hs).symm) (fun i => by rw [hσb]; exact bOf_congr fun s hs _ => (hlt s hs).symm)
      exact ⟨x, rfl, hE, S'.df, S'.ws, fun _ => S'⟩
  have hready : ∀ (listed : Array Bool), listed.size = ops.size → Region.ready .any ops listed = [] → ∀ i, i < ops.size → listed.getD i false = true := fun listed hls hr i => by
    induction i using Nat.strongRecOn with
    | _ i ih =>
      intro hi
      obtain ⟨o, ho⟩ := hops i hi
      cases hli : listed.getD i false with
      | true => rfl
      | false =>
        exfalso
        have hm : i ∈ Region.ready .any ops listed := mem_ready.2 ⟨by
          have : i < listed.size := by omega
          simp only [Array.getD_eq_getD_getElem?, Array.getElem?_eq_getElem this, Option.getD_some] at hli ⊢
          exact hli, o, ho, fun e he hb => by
          have := (statOk_spec hst ho).1 e he hb
          exact ih e.on this (by omega)⟩
        rw [hr] at hm; cases hm
  intro fuel
  induction fuel with
  | zero =>
    intro listed x a w hls hdc hcnt hpn S hE
    have hall : ∀ i, i < ops.size → listed.getD i false = true := fun i hi => by
      have h0 : false ∉ listed.toList := List.count_eq_zero.1 (by omega)
      have hi' : i < listed.size := by omega
      simp only [Array.getD_eq_getD_getElem?, Array.getElem?_eq_getElem hi', Option.getD_some]
      cases hv : listed[i] with
      | true => rfl
      | false => exact absurd (by rw [← hv]; exact Array.mem_toList_iff.2 (Array.getElem_mem hi')) h0
    refine ⟨?_, hend listed x a w hls hall hpn S hE⟩
    cases hr : Region.ready .any ops listed with
    | nil => rfl
    | cons i r =>
      exfalso
      have hm : i ∈ Region.ready .any ops listed := by rw [hr]; exact List.mem_cons_self ..
      obtain ⟨h1, o, ho, _⟩ := mem_ready.1 hm
      have hi : i < ops.size := (Array.getElem?_eq_some_iff.1 ho).1
      have := hall i hi
      have hi' : i < listed.size := by omega
      simp only [Array.getD_eq_getD_getElem?, Array.getElem?_eq_getElem hi', Option.getD_some] at this h1
      rw [this] at h1; cases h1
  | succ fuel ihf =>
    intro listed x a w hls hdc hcnt hpn S hE
    refine ⟨fun hr => hend listed x a w hls (hready listed hls hr) hpn S hE, fun i hi => ?_⟩
    obtain ⟨h1, o, ho, hpre⟩ := mem_ready.1 hi
    have hilt : i < ops.size := (Array.getElem?_eq_some_iff.1 ho).1
    have hil : i < listed.size := by omega
    have hli : listed.getD i false = false := by
      simp only [Array.getD_eq_getD_getElem?, Array.getElem?_eq_getElem hil, Option.getD_some] at h1 ⊢
      exact h1
    have hl' : ∀ k, (listed.setIfInBounds i true).getD k false = true ↔ (listed.getD k false = true ∨ k = i) := fun k => by
      by_cases e : k = i
      · subst e; simp [hil]
      · rw [getD_set_ne false (Ne.symm e)]; simp [e]
    have hdc' : DC ops (fun k => (listed.setIfInBounds i true).getD k false) := fun k q hk hq e he hb => by
      rcases (hl' k).1 hk with h | rfl
      · exact (hl' _).2 (.inl (hdc k q h hq e he hb))
      · rw [ho] at hq; cases hq
        exact (hl' _).2 (.inl (hpre e he hb))
    have hi' : (listed.setIfInBounds i true).getD i false = true := (hl' i).2 (.inr rfl)
    have behind : ∀ k, memN i (reach ops k) = true → k ≠ i → listed.getD k false = true := fun k hk hne => by
      rcases (hl' k).1 (reach_spec hdc' hk hi') with h | h
      · exact h
      · exact absurd h hne
    have ahead : ∀ k, memN k (reach ops i) = true → listed.getD k false = false := fun k hk => by
      cases h : listed.getD k false with
      | false => rfl
      | true => have : listed.getD i false = true := reach_spec hdc hk h; rw [hli] at this; cases this
    -- it has a record
    have hrec : i < full.length := by
      cases hp : p with
      | none => rw [hlen hp]; exact hilt
      | some u =>
        cases hf : full with
        | nil => rw [hf, hp] at hR; cases hR
        | cons r rs =>
          have h2 := hpn u r rs hp hf
          have h3 : r.i = rs.length := by rw [hf] at hR; exact hR.1
          rcases Nat.lt_or_ge i (rs.length + 1) with h | h
          · exact h
          · exfalso
            rcases hpan with hpan | hpan
            · rw [hp] at hpan; cases hpan
            · rw [hf] at hpan
              simp only [panOk, Bool.and_eq_true] at hpan
              have h4 := List.all_eq_true.1 hpan.1 i (by rw [List.mem_range'_1]; omega)
              have := behind r.i h4 (by omega)
              rw [h2] at this; cases this
    obtain ⟨r, hr, hri, p', tc, bc, hrun, hp', hp2, hgt, hgt', hgb⟩ := hR.get i hrec
    obtain ⟨o', ho', hcl, hcase⟩ := hrun
    rw [hri, ho] at ho'
    cases ho'
    -- what stands in line with this one
    have hline : ∀ s ∈ full, inLine ops r s = true → (listed.getD s.i false = true ↔ s.i < i) := fun s hs hm => by
      unfold inLine at hm
      rw [hri] at hm
      rcases Nat.lt_trichotomy s.i i with h | h | h
      · have hb1 : Nat.blt s.i i = true := Nat.ble_eq_true_of_le h
        rw [hb1] at hm
        exact ⟨fun _ => h, fun _ => behind s.i hm (by omega)⟩
      · rw [h]; exact ⟨fun h5 => (by rw [hli] at h5; cases h5), fun h5 => absurd h5 (Nat.lt_irrefl _)⟩
      · have hb1 : Nat.blt s.i i = false := by rw [← Bool.not_eq_true]; intro e; have : s.i < i := Nat.le_of_ble_eq_true e; omega
        rw [hb1] at hm
        have := ahead s.i hm
        exact ⟨fun h5 => (by rw [this] at h5; cases h5), fun h5 => by omega⟩
    have hself : ∀ s ∈ full, Nat.beq r.i s.i = true → (listed.getD s.i false = true ↔ s.i < i) := fun s hs hm => by
      have := Nat.eq_of_beq_eq_true hm
      rw [hri] at this
      rw [← this]; exact ⟨fun h5 => (by rw [hli] at h5; cases h5), fun h5 => absurd h5 (Nat.lt_irrefl _)⟩
    have hsep : ∀ s ∈ full, s.sc ≠ [] → (listed.getD s.i false = true ↔ s.i < i) ∨ (r.cl = true ∧ r.ft = [] ∧ r.sc = [] ∧ ∀ k ∈ s.sc, recTok k r = false) := fun s hs hne => by
      have h1 := hsc' s hs
      unfold endsOk at h1
      split at h1
      · rename_i e; exact absurd e hne
      · rename_i ks _
        have h2 := List.all_eq_true.1 h1 r hr
        simp only [Bool.or_eq_true, Bool.and_eq_true] at h2
        rcases h2 with (h2 | h2) | ⟨⟨⟨h2, h3⟩, h4⟩, h5⟩
        · exact .inl (hself s hs h2)
        · exact .inl (hline s hs h2)
        · refine .inr ⟨h2, List.isEmpty_iff.1 h3, List.isEmpty_iff.1 h4, fun k hk => ?_⟩
          have := List.all_eq_true.1 h5 k hk
          simpa only [Bool.not_eq_true'] using this
    have hcases : (∀ s ∈ full, s.sc ≠ [] → (listed.getD s.i false = true ↔ s.i < i)) ∨ (r.cl = true ∧ r.ft = []) := by
      by_cases h : ∀ s ∈ full, s.sc ≠ [] → (listed.getD s.i false = true ↔ s.i < i)
      · exact .inl h
      · refine .inr ?_
        simp only [Classical.not_forall] at h
        obtain ⟨s, hs, hne, hno⟩ := h
        rcases hsep s hs hne with h | h
        · exact absurd h hno
        · exact ⟨h.1, h.2.1⟩
    have adst : ∀ d ∈ o.looksAt ops, ∀ s ∈ full, dstAt ops s.i = some d → (listed.getD s.i false = true ↔ s.i < i) := fun d hdm s hs hds => by
      have hsl := Rok.lt hR s hs
      obtain ⟨os, hos⟩ := hops s.i (by omega)
      have hds' : os.dst = some d := by simpa [dstAt, hos] using hds
      rcases Nat.lt_trichotomy s.i i with h | h | h
      · have he := (pair_edge hst hos ho h).1 d hds' (.inl hdm)
        have := hasEdge_spec hdc' he hi'
        rcases (hl' s.i).1 this with h5 | h5
        · exact ⟨fun _ => h, fun _ => h5⟩
        · omega
      · rw [h]; exact ⟨fun h5 => (by rw [hli] at h5; cases h5), fun h5 => absurd h5 (Nat.lt_irrefl _)⟩
      · refine ⟨fun h5 => ?_, fun h5 => by omega⟩
        have he := (pair_edge hst ho hos h).2 d hds' hdm
        have : listed.getD i false = true := hasEdge_spec hdc he h5
        rw [hli] at this; cases this
    have agt : ∀ d ∈ o.looksAt ops, getT (tOf ops (fun i => listed.getD i false) t0 full) d = getT tc d := fun d hdm => by
      rcases hcases with h | ⟨h, _⟩
      · exact hgt _ d fun s hs hds => by
          rcases hds with hds | hds
          · exact adst d hdm s hs hds
          · exact h s hs hds
      · rw [hcl] at h
        exact hgt' _ d (niceAll_mem h d hdm) fun s hs hds => adst d hdm s hs hds
    have hlats : ∀ s ∈ full, ∀ q ∈ r.ft, getB s.wr q ≠ none → (listed.getD s.i false = true ↔ s.i < i) := fun s hs q hq hsq => by
      have hm := hpair' r hr s hs
      unfold pairOk at hm
      rw [meets_of hq hsq] at hm
      rcases Nat.lt_trichotomy s.i i with h | h | h
      · have hb1 : Nat.blt s.i r.i = true := Nat.ble_eq_true_of_le (by rw [hri]; exact h)
        have hb2 : Nat.beq r.i s.i = false := by rw [← Bool.not_eq_true]; intro e; have := Nat.eq_of_beq_eq_true e; omega
        rw [hb1, hb2] at hm
        simp only [Bool.not_true, Bool.false_or] at hm
        rw [hri] at hm
        exact ⟨fun _ => h, fun _ => behind s.i hm (by omega)⟩
      · rw [h]; exact ⟨fun h5 => (by rw [hli] at h5; cases h5), fun h5 => absurd h5 (Nat.lt_irrefl _)⟩
      · have hb1 : Nat.blt s.i r.i = false := by rw [← Bool.not_eq_true]; intro e; have : s.i < r.i := Nat.le_of_ble_eq_true e; omega
        have hb2 : Nat.beq r.i s.i = false := by rw [← Bool.not_eq_true]; intro e; have := Nat.eq_of_beq_eq_true e; omega
        rw [hb1, hb2] at hm
        simp only [Bool.not_true, Bool.false_or] at hm
        rw [hri] at hm
        have := ahead s.i hm
        exact ⟨fun h5 => (by rw [this] at h5; cases h5), fun h5 => by omega⟩
    have agb : ∀ q ∈ r.ft, getB (bOf (fun i => listed.getD i false) b0 full) q = getB bc q := fun q hq => hgb _ q fun s hs hsq => by
      rcases hsq with hsq | hsq
      · exact hlats s hs q hq hsq
      · rcases hcases with h | ⟨_, h⟩
        · exact h s hs hsq
        · rw [h] at hq; cases hq
    -- one that stands behind it in the text, and was ahead of it
    have hpairs : ∀ s ∈ full, i < s.i → listed.getD s.i false = true → (scV r.sc s.v = s.v ∧ scV s.sc r.v = r.v) ∧ ∀ q, (∀ cs, getB s.wr q = some cs → scVs r.sc cs = cs) ∧ ∀ cs, getB r.wr q = some cs → scVs s.sc cs = cs := fun s hs hlt hls' => by
      have hwrk : ∀ (k : Tok) (z : Rec), recTok k z = false → isTok k z.v = false ∧ ∀ q cs, getB z.wr q = some cs → anyTok k cs = false := fun k z hz => by
        simp only [recTok, Bool.or_eq_false_iff] at hz
        refine ⟨hz.1, fun q cs hq => ?_⟩
        cases hh : anyTok k cs with
        | false => rfl
        | true => rw [List.any_eq_true.2 ⟨(q, cs), getB_mem hq, hh⟩] at hz; cases hz.2
      have hA : r.sc ≠ [] → s.sc = [] ∧ ∀ k ∈ r.sc, recTok k s = false := fun hne => by
        have h1 := hsc' r hr
        unfold endsOk at h1
        split at h1
        · rename_i e; exact absurd e hne
        · rename_i ks _
          have h2 := List.all_eq_true.1 h1 s hs
          simp only [Bool.or_eq_true, Bool.and_eq_true] at h2
          rcases h2 with (h2 | h2) | ⟨⟨⟨_, _⟩, h4⟩, h5⟩
          · have := Nat.eq_of_beq_eq_true h2; omega
          · unfold inLine at h2
            rw [hri, show Nat.blt i s.i = true from Nat.ble_eq_true_of_le hlt] at h2
            have := ahead s.i h2
            rw [hls'] at this; cases this
          · refine ⟨List.isEmpty_iff.1 h4, fun k hk => ?_⟩
            have := List.all_eq_true.1 h5 k hk
            simpa only [Bool.not_eq_true'] using this
      have hB : s.sc ≠ [] → ∀ k ∈ s.sc, recTok k r = false := fun hne => by
        rcases hsep s hs hne with h | h
        · have := h.1 hls'; omega
        · exact h.2.2.2
      refine ⟨⟨?_, ?_⟩, fun q => ⟨fun cs hq => ?_, fun cs hq => ?_⟩⟩
      · by_cases hne : r.sc = []
        · rw [hne, scV_nil]
        · exact scV_untok fun k hk => (hwrk k s ((hA hne).2 k hk)).1
      · by_cases hne : s.sc = []
        · rw [hne, scV_nil]
        · exact scV_untok fun k hk => (hwrk k r (hB hne k hk)).1
      · by_cases hne : r.sc = []
        · rw [hne, scVs_nil]
        · exact scVs_untok fun k hk => (hwrk k s ((hA hne).2 k hk)).2 q cs hq
      · by_cases hne : s.sc = []
        · rw [hne, scVs_nil]
        · exact scVs_untok fun k hk => (hwrk k r (hB hne k hk)).2 q cs hq
    -- the state behind it
    have hnext : ∀ x' a' w' t1 b1, (∀ j, getT t1 j = scV r.sc (getT (tOf ops (fun i => listed.getD i false) t0 full) j)) → (∀ j, getB b1 j = (getB (bOf (fun i => listed.getD i false) b0 full) j).map (scVs r.sc)) → Sim I B0 M nt x' (putT o.dst r.v t1) (catB r.wr b1) a' w' → Ext M x w x' w' → (p = none ∨ i + 1 ≠ full.length) →
        wpAny P .any ops (Behind I B0 M nt x0 w0 (exOf p) σ) fuel (listed.setIfInBounds i true) a' w' := fun x' a' w' t1 b1 ht1 hb1 S' hE' hnp => by
      have hdi : dstAt ops i = o.dst := by simp [dstAt, ho]
      refine ihf (listed.setIfInBounds i true) x' a' w' (by simp [hls]) hdc' ?_ (fun u r' rs hp hf => ?_) (S'.same (fun d => ?_) (fun q => ?_)) (hE.trans hE')
      · have hc : (listed.setIfInBounds i true).toList = listed.toList.set i true := by simp
        have hget : listed.toList[i]'(by simpa using hil) = false := by
          simp only [Array.getD_eq_getD_getElem?, Array.getElem?_eq_getElem hil, Option.getD_some] at hli
          simpa using hli
        rw [hc, List.count_set (h := by simpa using hil), hget]
        have hpos : 0 < listed.toList.count false := List.count_pos_iff.2 (by rw [← hget]; exact List.getElem_mem _)
        simp only [beq_self_eq_true, if_true, Bool.false_eq_true, if_false, Nat.add_zero, show ((true : Bool) == false) = false from rfl]
        omega
      · have h2 := hpn u r' rs hp hf
        have h3 : r'.i = rs.length := by rw [hf] at hR; exact hR.1
        have hne : r'.i ≠ i := fun e => by
          rcases hnp with h | h
          · rw [hp] at h; cases h
          · exact h (by rw [hf]; simp; omega)
        cases hv : (listed.setIfInBounds i true).getD r'.i false with
        | false => rfl
        | true =>
          rcases (hl' _).1 hv with h | h
          · rw [h2] at h; cases h
          · exact absurd h hne
      · rw [← hdi]
        refine (tOf_add hR hr hri hl' hli (fun s hs hlt hls' => ⟨fun hdn hds => ?_, (hpairs s hs hlt hls').1⟩)).trans ?_
        · have hsl := Rok.lt hR s hs
          obtain ⟨os, hos⟩ := hops s.i (by omega)
          rw [hdi] at hds hdn
          cases hod : o.dst with
          | none => exact hdn hod
          | some d =>
            have hds' : os.dst = some d := by rw [← hod, ← hds]; simp [dstAt, hos]
            have he := (pair_edge hst ho hos hlt).1 d hod (.inr hds')
            have : listed.getD i false = true := hasEdge_spec hdc he hls'
            rw [hli] at this; cases this
        · rw [getT_putT, getT_putT, getT_scT, ht1]
      · refine (bOf_add hR hr hri hl' hli (fun s hs hlt hls' => ⟨fun hsq => ?_, (hpairs s hs hlt hls').2 q⟩)).trans ?_
        · cases hrq : getB r.wr q with
          | none => rfl
          | some cs => have := (hlats s hs q (hwr r hr q (by rw [hrq]; simp)) hsq).1 hls'; omega
        · rw [getB_cat, getB_cat, getB_scB, hb1]
    have hw : wantD ops o (tOf ops (fun i => listed.getD i false) t0 full) = wantD ops o tc := wantD_congr o agt
    unfold wpOp
    simp only [ho]
    rcases hcase with ⟨hwant, hpn', hv, hwr0, hsc0⟩ | ⟨hwant, hft, e, hden, hwre, hsce, hve⟩
    · rw [← hw] at hwant
      rw [wantD_ok S hwant]
      simp only [Bool.false_eq_true, if_false]
      refine hnext x _ w _ _ (fun j => by rw [hsc0, scV_nil]) (fun j => by rw [hsc0, getB_sc0]) ?_ (Ext.refl _ _) ?_
      · rw [hv, hwr0]
        exact S.pass (hd i o ho)
      · by_cases h : i + 1 = full.length
        · exact .inl ((hp2 h).symm.trans hpn')
        · exact .inr h
    · rw [← hw] at hwant
      rw [wantD_ok S hwant]
      simp only [if_true]
      refine .inl ?_
      have hev := ev_congr (ops := ops) o (b := bOf (fun i => listed.getD i false) b0 full) (b' := bc) agt
      have hfoot : footB tt o (St.ev ⟨tOf ops (fun i => listed.getD i false) t0 full, bOf (fun i => listed.getD i false) b0 full⟩) (getB (bOf (fun i => listed.getD i false) b0 full)) = r.ft := by
        rw [hft]
        refine (footB_congr o (fun y hy => (hev y hy).symm) (fun q hq => ?_)).symm
        rw [← hft] at hq; exact (agb q hq).symm
      have hopD : opEffD tt o (St.ev ⟨tOf ops (fun i => listed.getD i false) t0 full, bOf (fun i => listed.getD i false) b0 full⟩) (getB (bOf (fun i => listed.getD i false) b0 full)) = opEffD tt o (St.ev ⟨tc, bc⟩) (getB bc) :=
        opEffD_congr o hev (fun q hq => by rw [hfoot] at hq; exact agb q hq)
      rw [← hopD] at hden
      refine opD_ok htt hI hX hB hnb (hd i o ho) S ?_ hden (fun hpv a' w' x' t1 b1 ht1 hb1 S' hE' => ?_) (fun u hpv rv w' x' b1 hb1 hrv hws hE' => ?_)
      · intro d hod
        have hN := hnew' r hr
        unfold newOk at hN
        rw [hri, ho] at hN
        simp only [hod] at hN
        obtain ⟨n1, n2⟩ := hnew i o d ho hod
        refine ⟨fun hn => ?_, fun hrow => ?_⟩
        · rw [hn] at hN
          simp only at hN
          have hno : ∀ s ∈ full, listed.getD s.i false = true → recBox d s = false := fun s hs hls' => by
            have h5 := List.all_eq_true.1 hN s hs
            simp only [Bool.or_eq_true, Bool.not_eq_true'] at h5
            rcases h5 with h5 | h5
            · have := ahead s.i h5; rw [hls'] at this; cases this
            · exact h5
          refine ⟨tOf_says (f := hasBox d) rfl (n1 hn).1 (fun s hs hls' => ?_), bOf_says (f := hasBoxes d) (fun sc cs => scVs_hasBoxes sc cs) (n1 hn).2 (fun s hs hls' j cs hm => ?_)⟩
          · have := hno s hs hls'
            simp only [recBox, Bool.or_eq_false_iff] at this; exact this.1
          · have := hno s hs hls'
            simp only [recBox, Bool.or_eq_false_iff] at this
            cases hh : hasBoxes d cs with
            | false => rfl
            | true => rw [List.any_eq_true.2 ⟨(j, cs), hm, hh⟩] at this; cases this.2
        · have hnn : isNew o.op = false := by cases hop : o.op <;> rw [hop] at hrow <;> first | (cases hrow; done) | rfl
          rw [hnn, hrow] at hN
          simp only at hN
          have hno : ∀ s ∈ full, recTok (d, here) s = false := fun s hs => by
            have h5 := List.all_eq_true.1 hN s hs
            simpa only [Bool.not_eq_true'] using h5
          refine ⟨tOf_says (f := isTok (d, here)) rfl (n2 hrow).1 (fun s hs hls' => ?_), bOf_says (f := anyTok (d, here)) (fun sc cs => scVs_anyTok sc cs) (n2 hrow).2 (fun s hs hls' j cs hm => ?_)⟩
          · have := hno s hs
            simp only [recTok, Bool.or_eq_false_iff] at this; exact this.1
          · have := hno s hs
            simp only [recTok, Bool.or_eq_false_iff] at this
            cases hh : anyTok (d, here) cs with
            | false => rfl
            | true => rw [List.any_eq_true.2 ⟨(j, cs), hm, hh⟩] at this; cases this.2
      · rw [← hve hpv, ← hwre] at S'
        rw [← hsce] at ht1 hb1
        refine hnext x' a' w' t1 b1 ht1 hb1 S' hE' ?_
        by_cases h : i + 1 = full.length
        · exact .inl ((hp2 h).symm.trans hpv)
        · exact .inr h
      · -- it gives up
        rcases hp' with hp' | ⟨hp', hlast⟩
        · rw [hp'] at hpv; cases hpv
        · rw [hp'] at hpv
          rw [← hwre] at hws
          rcases hpan with hpan | hpan
          · rw [hpv] at hpan; cases hpan
          · cases hf : full with
            | nil => rw [hf] at hr; cases hr
            | cons r' rs =>
              have h3 : r'.i = rs.length := by rw [hf] at hR; exact hR.1
              rw [hf] at hlast hr
              simp only [List.length_cons] at hlast
              have hrr : r = r' := by
                rcases List.mem_cons.1 hr with h | h
                · exact h
                · have := Rok.lt (show Rok P tt X n ops t0 b0 none rs by rw [hf] at hR; exact hR.2.2) r h
                  omega
              subst hrr
              rw [hf] at hpan
              simp only [panOk, Bool.and_eq_true] at hpan
              rw [hpv]
              refine ⟨x', ⟨rv, rfl, hrv⟩, hE.trans hE', S.df, hws.same (fun q => ?_), fun hne => by rcases hne with hne | hne; exact absurd rfl (hne u); rw [hnd] at hne; cases hne⟩
              rw [hσb, hf]
              have e1 : bOf top b0 (r :: rs) = catB r.wr (scB r.sc (bOf top b0 rs)) := rfl
              have e2 : bOf (fun i => listed.getD i false) b0 (r :: rs) = bOf (fun i => listed.getD i false) b0 rs := if_neg (by show ¬ (listed.getD r.i false = true); rw [hri, hli]; simp)
              rw [hf, e2, ← hsce] at hb1
              rw [e1, getB_cat, getB_cat, getB_scB, hb1]
              have hrs : getB (bOf top b0 rs) q = getB (bOf (fun i => listed.getD i false) b0 rs) q := bOf_congr fun s hs hsq => by
                have h5 := List.all_eq_true.1 hpan.2 s hs
                simp only [Bool.or_eq_true, Bool.and_eq_true] at h5
                rcases h5 with h5 | h5
                · rw [hri] at h5
                  have hsl := Rok.lt (show Rok P tt X n ops t0 b0 none rs by rw [hf] at hR; exact hR.2.2) s hs
                  exact (behind s.i h5 (by omega)).symm
                · rcases hsq with hsq | hsq
                  · exact absurd (by rw [List.isEmpty_iff.1 h5.1]; rfl) hsq
                  · exact absurd (List.isEmpty_iff.1 h5.2) hsq
              cases getB r.wr q with
              | some _ => rfl
              | none => exact congrArg (Option.map (scVs r.sc)) hrs
theorem tOf_none {l : Nat → Bool} (h : ∀ k, l k = false) : ∀ full : List Rec, tOf ops l t0 full = t0
  | [] => rfl
  | r :: rs => by
    have e : tOf ops l t0 (r :: rs) = tOf ops l t0 rs := if_neg (by rw [h]; simp)
    rw [e]; exact tOf_none h rs
theorem bOf_none {l : Nat → Bool} (h : ∀ k, l k = false) : ∀ full : List Rec, bOf l b0 full = b0
  | [] => rfl
  | r :: rs => by
    have e : bOf l b0 (r :: rs) = bOf l b0 rs := if_neg (by rw [h]; simp)
    rw [e]; exact bOf_none h rs
theorem WSim.clean (S : WSim I B0 M x b w) (scr : List Tok) (drp : List Nat) : WSim I B0 M x (cleanB scr drp b) w := by
  have hget : ∀ i cs, getB (cleanB scr drp b) i = some cs → ∃ c0, getB b i = some c0 ∧ cs = cleanVs scr drp c0 := fun i cs h => by
    rw [getB_clean] at h
    cases hc : getB b i with
    | none => rw [hc] at h; cases h
    | some c0 => rw [hc] at h; exact ⟨c0, rfl, (Option.some.inj h).symm⟩
  refine ⟨S.inv, S.big, S.top, S.agree, fun i cs hc => ?_, fun i j cs ds hc hd he => ?_, S.zone, S.zinj, fun t k s e i cs hz hc => ?_⟩
  · obtain ⟨c0, h1, rfl⟩ := hget i cs hc
    obtain ⟨g1, g2, ws, ty, g3, g4⟩ := S.box i c0 h1
    exact ⟨g1, g2, ws, ty, g3, g4.clean (fun _ _ _ h => h) (fun _ _ => rfl) (fun _ _ => rfl)⟩
  · obtain ⟨c1, h1, _⟩ := hget i cs hc
    obtain ⟨c2, h2, _⟩ := hget j ds hd
    exact S.inj i j c1 c2 h1 h2 he
  · obtain ⟨c0, h1, _⟩ := hget i cs hc
    exact S.zbox t k s e i c0 hz h1
theorem Sim.clean (S : Sim I B0 M nt x t b a w) (scr : List Tok) (drp : List Nat) : Sim I B0 M nt x (cleanT scr drp t) (cleanB scr drp b) a w :=
  ⟨fun i => by rw [getT_clean]; exact (S.tm i).clean (fun _ _ _ h => h) (fun _ _ => rfl) (fun _ _ => rfl), S.sz, S.df, S.ws.clean scr drp⟩
theorem newsOf_mem {o : Oper} {d : Nat} (hn : isNew o.op = true) (hd : o.dst = some d) : ∀ {l : List Oper}, o ∈ l → d ∈ newsOf l
  | [], h => by cases h
  | o' :: r, h => by
    rcases List.mem_cons.1 h with rfl | h
    · simp only [newsOf, hn, hd]; exact List.mem_cons_self ..
    · have ih := newsOf_mem hn hd h
      simp only [newsOf]
      split
      · exact List.mem_cons_of_mem _ ih
      · exact ih
theorem rowsOf_mem {o : Oper} {d : Nat} (hn : isRow o.op = true) (hd : o.dst = some d) : ∀ {l : List Oper}, o ∈ l → (d, here) ∈ rowsOf l
  | [], h => by cases h
  | o' :: r, h => by
    rcases List.mem_cons.1 h with rfl | h
    · simp only [rowsOf, hn, hd]; exact List.mem_cons_self ..
    · have ih := rowsOf_mem hn hd h
      simp only [rowsOf]
      split
      · exact List.mem_cons_of_mem _ ih
      · exact ih
theorem evDrawn_ok (hnd : Ds.nd = false) (hm : P.follows .mixedOrders = true) (htt : TTok P tt) (hI : Stable I B0) (hX : GivenOK P X I B0) (hB : Below P tt X I B0 n) (hnb : nt ≤ base) {id : Nat} (hd : ∀ o ∈ ops.toList, ∀ d, o.dst = some d → d < nt) (S : Sim I B0 M nt x t b a w) {ex : Ex} {σ : St}
    (h : DenN P tt X n (Ex × St) (evDrawn tt ops t b) (ex, σ)) : (Code.region id ops true).wp P (Behind I B0 M nt x w ex σ) a w := by
  unfold evDrawn at h
  obtain ⟨hst, h⟩ := den_asrt h
  have hmem : ∀ (i : Nat) (o : Oper), ops[i]? = some o → o ∈ ops.toList := fun i o ho => List.mem_of_getElem? (by rw [Array.getElem?_toList]; exact ho)
  have go : ∀ (t0 : Tmps) (b0 : Boxes), Sim I B0 M nt x t0 b0 a w → (∀ (i : Nat) (o : Oper) (d : Nat), ops[i]? = some o → o.dst = some d → (isNew o.op = true → (∀ i, hasBox d (getT t0 i) = false) ∧ ∀ i cs, getB b0 i = some cs → hasBoxes d cs = false) ∧ (isRow o.op = true → (∀ i, isTok (d, here) (getT t0 i) = false) ∧ ∀ i cs, getB b0 i = some cs → anyTok (d, here) cs = false)) →
      DenN P tt X n (Ex × St) ((evD tt ops ops.toList 0 t0 b0 []).bind fun | (rs, p, σ) => .asrt (dynOk ops rs p.isSome = true) (.leaf (exOf p, σ))) (ex, σ) → (Code.region id ops true).wp P (Behind I B0 M nt x w ex σ) a w := fun t0 b0 S0 hnew h => by
    obtain ⟨⟨full, p, σ'⟩, h1, h2⟩ := den_bind h
    obtain ⟨hdyn, h3⟩ := den_asrt h2
    have := den_leaf h3
    simp only [Prod.mk.injEq] at this
    obtain ⟨rfl, rfl⟩ := this
    obtain ⟨hR, hσb, hσt, hle⟩ := evD_spec (t0 := t0) (b0 := b0) ops.toList 0 t0 b0 [] full p σ' rfl (Nat.zero_le _) rfl rfl rfl rfl h1
    refine wp_region_any hm ?_
    have hno : ∀ k, (Array.replicate ops.size false).getD k false = false := fun k => by
      rcases Nat.lt_or_ge k ops.size with h | h
      · simp [Array.getD_eq_getD_getElem?, h]
      · simp [Array.getD_eq_getD_getElem?, h]
    have hany := any_ok (x0 := x) (w0 := w) hnd htt hI hX hB hnb (fun i o ho => hd o (hmem i o ho)) hst hdyn hR (fun hp => (hσt hp).2) hle hnew (fun hp => (hσt hp).1) hσb ops.size (Array.replicate ops.size false) x a { w with drawn := w.drawn + 1 } (by simp) (fun i o hi => by have hi' : (Array.replicate ops.size false).getD i false = true := hi; rw [hno] at hi'; cases hi') (by simp) (fun _ _ _ _ _ => hno _)
      (by
        rw [tOf_none hno, bOf_none hno]
        exact ⟨S0.tm, S0.sz, S0.df, S0.ws.drew hI rfl⟩) (Ext.drew rfl rfl rfl rfl)
    exact hany
  split at h
  · rename_i hn hr
    refine go t b S (fun i o d ho hod => ⟨fun h1 => ?_, fun h1 => ?_⟩) h
    · have := newsOf_mem h1 hod (hmem i o ho); rw [hn] at this; cases this
    · have := rowsOf_mem h1 hod (hmem i o ho); rw [hr] at this; cases this
  · rw [cleanE_eq] at h
    refine go _ _ (S.clean _ _) (fun i o d ho hod => ⟨fun h1 => ?_, fun h1 => ?_⟩) h
    · have hm' := newsOf_mem h1 hod (hmem i o ho)
      refine ⟨fun j => by rw [getT_clean]; exact clean_hasBox hm' _, fun j cs hc => ?_⟩
      rw [getB_clean] at hc
      cases hb : getB b j with
      | none => rw [hb] at hc; cases hc
      | some c0 => rw [hb] at hc; cases hc; exact cleanVs_hasBox hm' _
    · have hm' := rowsOf_mem h1 hod (hmem i o ho)
      refine ⟨fun j => by rw [getT_clean]; exact clean_isTok hm' _, fun j cs hc => ?_⟩
      rw [getB_clean] at hc
      cases hb : getB b j with
      | none => rw [hb] at hc; cases hc
      | some c0 => rw [hb] at hc; cases hc; exact cleanVs_isTok hm' _
end
end Go.Proofs.YtacfbgfphkfobaaGreatDoor.Id
/-! ## IdealT -/
namespace Go.Proofs.YtacfbgfphkfobaaGreatDoor.Id
open Go
set_option linter.unusedSectionVars false
set_option linter.unusedVariables false
set_option linter.unusedSimpArgs false
section
variable {I : World → Prop} {B0 : Nat} {M : Nat → Prop} {P : Program} {tt : TT} {X : Given} {n nt : Nat} {x : Aux} {t : Tmps} {b : Boxes} {a : Act} {w : World}
variable [Ds]
/-! ### code -/
def pruneT (l : List Nat) : Tmps → Tmps
  | [] => []
  | (i, v) :: r => match memN i l with
    | true => (i, v) :: pruneT l r
    | false => pruneT l r
theorem prune_eq {α : Type} (l : List Nat) : ∀ (t : Tmps) (f : Tmps → α), prune l t f = f (pruneT l t)
  | [], f => rfl
  | (i, v) :: r, f => by
    simp only [prune, pruneT]
    cases memN i l
    · exact prune_eq l r f
    · simp only [forceV_eq]; rw [prune_eq l r]
theorem getT_prune (l : List Nat) : ∀ (t : Tmps) (i : Nat), getT (pruneT l t) i = if memN i l = true then getT t i else .undef
  | [], i => by simp [pruneT, getT]
  | (j, v) :: r, i => by
    simp only [pruneT]
    cases hj : memN j l with
    | true =>
      simp only [getT]
      cases hb : Nat.beq j i with
      | true => rw [← Nat.eq_of_beq_eq_true hb, hj]; rfl
      | false => exact getT_prune l r i
    | false =>
      simp only [getT]
      rw [getT_prune l r i]
      cases hb : Nat.beq j i with
      | true => rw [← Nat.eq_of_beq_eq_true hb, hj]; rfl
      | false => rfl
theorem Sim.prune (S : Sim I B0 M nt x t b a w) (l : List Nat) : Sim I B0 M nt x (pruneT l t) b a w :=
  ⟨fun i => by rw [getT_prune]; split; exact S.tm i; trivial, S.sz, S.df, S.ws⟩
theorem Below.mono {m : Nat} (h : Below P tt X I B0 n) (hm : m ≤ n) : Below P tt X I B0 m := fun q hq => h q (Nat.lt_of_lt_of_le hq hm)
/-- code is right, at this height -/
def CodeOK (P : Program) (tt : TT) (X : Given) (I : World → Prop) (B0 : Nat) (M : Nat → Prop) (nt n : Nat) (c : Code) : Prop :=
  ∀ G x t b a w ex σ, Sim I B0 M nt x t b a w → DenN P tt X n (Ex × St) (evCode tt G c t b) (ex, σ) → c.wp P (Behind I B0 M nt x w ex σ) a w
theorem Behind.normal {x : Aux} {w : World} {σ : St} {e : Exit} {a2 : Act} {w2 : World} (h : Behind I B0 M nt x w .normal σ e a2 w2) : e = .normal ∧ ∃ x', Ext M x w x' w2 ∧ Sim I B0 M nt x' σ.t σ.b a2 w2 := by
  obtain ⟨x', h1, h2, _, _, h5⟩ := h
  exact ⟨h1, x', h2, h5 (.inl fun v => by simp)⟩
theorem Behind.notNormal {x : Aux} {w : World} {ex : Ex} {σ : St} {e : Exit} {a2 : Act} {w2 : World} (h : Behind I B0 M nt x w ex σ e a2 w2) (hne : ex ≠ .normal) : e ≠ .normal := by
  obtain ⟨x', h1, _⟩ := h
  cases ex with
  | normal => exact absurd rfl hne
  | exit id => intro he; subst he; cases h1
  | ret => intro he; subst he; cases h1
  | pan v => intro he; subst he; obtain ⟨rv, h1, _⟩ := h1; cases h1
theorem then_ne {K : Act → World → Prop} {Q : Exit → Act → World → Prop} {e : Exit} {a2 : Act} {w2 : World} (hne : e ≠ .normal) (h : Q e a2 w2) : Exit.then K Q e a2 w2 := by
  cases e <;> first | exact absurd rfl hne | exact h
/-- no region draws its order -/
def noDraw : Code → Bool
  | .region _ _ d => !d
  | .seq a b | .cond _ a b | .rangeFunc _ _ a b => noDraw a && noDraw b
  | .block _ c | .loop c | .scope c => noDraw c
  | _ => true
theorem loop_ok (hI : Stable I B0) {c : Code} {ex : Ex} {σ : St} {x0 : Aux} {w0 : World} : ∀ n, (∀ m, m < n → CodeOK P tt X I B0 M nt m c) → ∀ x σ0 a w, Sim I B0 M nt x σ0.t σ0.b a w → Ext M x0 w0 x w →
    DenN P tt X n (Ex × St) (.loop c σ0 fun e σ => .leaf (e, σ)) (ex, σ) → Code.rounds P c (Behind I B0 M nt x0 w0 ex σ) n a w
  | 0, _, x, σ0, a, w, S, hE, h => by cases h
  | n + 1, hc, x, σ0, a, w, S, hE, h => by
    cases h with
    | loopN hw h1 h2 =>
      obtain ⟨x', S', hE'⟩ := S.weak hI hw
      refine wp_mono (hc n (Nat.lt_succ_self n) _ _ _ _ _ _ _ _ S' h1) fun e a2 w2 hb => ?_
      obtain ⟨rfl, x2, hE2, S2⟩ := hb.normal
      exact loop_ok hI n (fun m hm => hc m (Nat.lt_succ_of_lt hm)) x2 _ a2 w2 S2 ((hE.trans hE').trans hE2) h2
    | loopX hne hw h1 h3 h2 =>
      rename_i ex2
      obtain ⟨x', S', hE'⟩ := S.weak hI hw
      have := den_leaf h2
      simp only [Prod.mk.injEq] at this
      obtain ⟨rfl, rfl⟩ := this
      refine wp_mono (hc n (Nat.lt_succ_self n) _ _ _ _ _ _ _ _ S' h1) fun e a2 w2 hb => ?_
      refine then_ne (hb.notNormal hne) (Behind.of_ext (hE.trans hE') ?_)
      rcases h3 with rfl | ⟨hp, hk⟩
      · exact hb
      · obtain ⟨x2, g1, g2, g3, g4, g5⟩ := hb
        obtain ⟨x3, S3, hE3⟩ := (g5 (.inl hp)).weak hI hk
        refine ⟨x3, ?_, g2.trans hE3, S3.df, S3.ws, fun _ => S3⟩
        cases ex2 <;> first | exact g1 | exact absurd rfl (hp _)
theorem evCode_ok (hm : P.follows .mixedOrders = true) (htt : TTok P tt) (hI : Stable I B0) (hX : GivenOK P X I B0) (hnb : nt ≤ base) : ∀ n, Below P tt X I B0 n → ∀ c, dstOk nt c = true → (Ds.nd = true → noDraw c = true) → CodeOK P tt X I B0 M nt n c := by
  intro n
  induction n using Nat.strongRecOn with
  | _ n ihn =>
    intro hB c
    induction c with
    | skip =>
      intro hd hnd G x t b a w ex σ S h
      have := den_leaf h
      simp only [Prod.mk.injEq] at this
      obtain ⟨rfl, rfl⟩ := this
      exact wp_skip ⟨x, rfl, Ext.refl _ _, S.df, S.ws, fun _ => S⟩
    | label l =>
      intro hd hnd G x t b a w ex σ S h
      have := den_leaf h
      simp only [Prod.mk.injEq] at this
      obtain ⟨rfl, rfl⟩ := this
      exact wp_label ⟨x, rfl, Ext.refl _ _, S.df, S.ws, fun _ => S⟩
    | exit id =>
      intro hd hnd G x t b a w ex σ S h
      have := den_leaf h
      simp only [Prod.mk.injEq] at this
      obtain ⟨rfl, rfl⟩ := this
      exact wp_exit ⟨x, rfl, Ext.refl _ _, S.df, S.ws, fun _ => S⟩
    | ret =>
      intro hd hnd G x t b a w ex σ S h
      have := den_leaf h
      simp only [Prod.mk.injEq] at this
      obtain ⟨rfl, rfl⟩ := this
      exact wp_ret ⟨x, rfl, Ext.refl _ _, S.df, S.ws, fun _ => S⟩
    | region id ops drawn =>
      intro hd hnd G x t b a w ex σ S h
      have hdd : ∀ o ∈ ops.toList, ∀ d, o.dst = some d → d < nt := fun o ho d hd' => by
        have := List.all_eq_true.1 hd o ho
        rw [hd'] at this
        exact Nat.le_of_ble_eq_true this
      cases drawn with
      | true =>
        have hnf : Ds.nd = false := by
          cases hq : Ds.nd with
          | false => rfl
          | true => have := hnd hq; cases this
        cases G with
        | none => exact evDrawn_ok hnf hm htt hI hX hB hnb hdd S h
        | some l =>
          change DenN P tt X n (Ex × St) (prune l t fun t => forceB b fun b => evDrawn tt ops t b) (ex, σ) at h
          simp only [prune_eq, forceB_eq] at h
          exact evDrawn_ok hnf hm htt hI hX hB hnb hdd (S.prune l) h
      | false =>
        refine wp_region ?_
        rw [List.range_eq_range']
        cases G with
        | none => exact evOps_ok htt hI hX hB hnb hdd ops.toList 0 x t b a w rfl (Ext.refl _ _) S h
        | some l =>
          change DenN P tt X n (Ex × St) (prune l t fun t => forceB b fun b => evOps tt ops ops.toList t b) (ex, σ) at h
          simp only [prune_eq, forceB_eq] at h
          exact evOps_ok htt hI hX hB hnb hdd ops.toList 0 x _ b a w rfl (Ext.refl _ _) (S.prune l) h
    | seq c1 c2 ih1 ih2 =>
      intro hd hnd G x t b a w ex σ S h
      simp only [dstOk, Bool.and_eq_true] at hd
      have hnd1 : Ds.nd = true → noDraw c1 = true := fun hq => by have := hnd hq; simp only [noDraw, Bool.and_eq_true] at this; exact this.1
      have hnd2 : Ds.nd = true → noDraw c2 = true := fun hq => by have := hnd hq; simp only [noDraw, Bool.and_eq_true] at this; exact this.2
      obtain ⟨⟨e1, σ1⟩, h1, h2⟩ := den_bind h
      refine wp_seq (wp_mono (ih1 hd.1 hnd1 G _ _ _ _ _ _ _ S h1) fun e a2 w2 hb => ?_)
      cases e1 with
      | normal =>
        obtain ⟨rfl, x2, hE2, S2⟩ := hb.normal
        exact wp_mono (ih2 hd.2 hnd2 G _ _ _ _ _ _ _ S2 h2) fun e a3 w3 hb3 => Behind.of_ext hE2 hb3
      | exit id =>
        have := den_leaf h2
        simp only [Prod.mk.injEq] at this
        obtain ⟨rfl, rfl⟩ := this
        exact then_ne (hb.notNormal (by simp)) hb
      | ret =>
        have := den_leaf h2
        simp only [Prod.mk.injEq] at this
        obtain ⟨rfl, rfl⟩ := this
        exact then_ne (hb.notNormal (by simp)) hb
      | pan v =>
        have := den_leaf h2
        simp only [Prod.mk.injEq] at this
        obtain ⟨rfl, rfl⟩ := this
        exact then_ne (hb.notNormal (by simp)) hb
    | cond q c1 c2 ih1 ih2 =>
      intro hd hnd G x t b a w ex σ S h
      simp only [dstOk, Bool.and_eq_true] at hd
      have hnd1 : Ds.nd = true → noDraw c1 = true := fun hq => by have := hnd hq; simp only [noDraw, Bool.and_eq_true] at this; exact this.1
      have hnd2 : Ds.nd = true → noDraw c2 = true := fun hq => by have := hnd hq; simp only [noDraw, Bool.and_eq_true] at this; exact this.2
      have hr := S.ev q
      change DenN P tt X n (Ex × St) (match St.ev ⟨t, b⟩ q with
        | .lit true => evCode tt G c1 t b
        | .lit false => evCode tt G c2 t b
        | .d (.bool q) => .ite q (evCode tt G c1 t b) (evCode tt G c2 t b)
        | _ => .fail) (ex, σ) at h
      split at h
      · rename_i e; rw [e] at hr
        exact wp_cond_true hr (ih1 hd.1 hnd1 G _ _ _ _ _ _ _ S h)
      · rename_i e; rw [e] at hr
        exact wp_cond_false hr (ih2 hd.2 hnd2 G _ _ _ _ _ _ _ S h)
      · rename_i g e; rw [e] at hr
        have hb := hr.bool
        rcases den_ite h with ⟨rfl, g⟩ | ⟨rfl, g⟩
        · exact wp_cond_true hb (ih1 hd.1 hnd1 G _ _ _ _ _ _ _ S g)
        · exact wp_cond_false hb (ih2 hd.2 hnd2 G _ _ _ _ _ _ _ S g)
      · exact (den_fail h).elim
    | block id c ih =>
      intro hd hnd G x t b a w ex σ S h
      simp only [dstOk] at hd
      obtain ⟨⟨e1, σ1⟩, h1, h2⟩ := den_bind h
      refine wp_block (wp_mono (ih hd hnd G _ _ _ _ _ _ _ S h1) fun e a2 w2 hb => ?_)
      cases e1 with
      | normal =>
        have := den_leaf h2
        simp only [Prod.mk.injEq] at this
        obtain ⟨rfl, rfl⟩ := this
        obtain ⟨rfl, _⟩ := hb.normal
        exact hb
      | exit j =>
        obtain ⟨x', rfl, g2, g3, g4, g5⟩ := hb
        simp only [Exit.inBlock]
        cases hj : Nat.beq j id with
        | true =>
          simp only [hj] at h2
          have := den_leaf h2
          simp only [Prod.mk.injEq] at this
          obtain ⟨rfl, rfl⟩ := this
          rw [if_pos (Nat.eq_of_beq_eq_true hj)]
          exact ⟨x', rfl, g2, g3, g4, fun _ => g5 (.inl fun v => by simp)⟩
        | false =>
          simp only [hj] at h2
          have := den_leaf h2
          simp only [Prod.mk.injEq] at this
          obtain ⟨rfl, rfl⟩ := this
          rw [if_neg (Nat.ne_of_beq_eq_false hj)]
          exact ⟨x', rfl, g2, g3, g4, g5⟩
      | ret =>
        have := den_leaf h2
        simp only [Prod.mk.injEq] at this
        obtain ⟨rfl, rfl⟩ := this
        obtain ⟨x', rfl, g2⟩ := hb
        exact ⟨x', rfl, g2⟩
      | pan v =>
        have := den_leaf h2
        simp only [Prod.mk.injEq] at this
        obtain ⟨rfl, rfl⟩ := this
        obtain ⟨x', ⟨rv, rfl, g1⟩, g2⟩ := hb
        exact ⟨x', ⟨rv, rfl, g1⟩, g2⟩
    | loop c ih =>
      intro hd hnd G x t b a w ex σ S h
      exact wp_loop_rounds n (loop_ok hI n (fun m hm => ihn m hm (hB.mono (Nat.le_of_lt hm)) c hd hnd) x ⟨t, b⟩ a w S (Ext.refl _ _) h)
    | _ => intro hd hnd G x t b a w ex σ S h; exact (den_fail h).elim
end
end Go.Proofs.YtacfbgfphkfobaaGreatDoor.Id
/-! ## IdealQ -/
namespace Go.Proofs.YtacfbgfphkfobaaGreatDoor.Id
open Go
set_option linter.unusedSectionVars false
set_option linter.unusedVariables false
set_option linter.unusedSimpArgs false
section
variable {I : World → Prop} {B0 : Nat} {M : Nat → Prop} {P : Program} {tt : TT} {X : Given} {n nt : Nat} {x : Aux} {t : Tmps} {b : Boxes} {a : Act} {w : World}
variable [Ds]
def resSem (tmps : Array Value) : ResultVar → Sem Value
  | .tmp t => pure (tmps.getD t undef)
  | .cell a t => do loadVar t (← asAddr (tmps.getD a undef))
theorem results_eq (fn : Func) (tmps : Array Value) (w : World) {vs : List Value} (h : (fn.results.toList.mapM (resSem tmps)).run P w = .ok vs w) :
    (results fn tmps).run P w = .ok (if h : vs.toArray.size = 1 then vs.toArray[0] else .tuple vs.toArray) w := by
  have e : results fn tmps = (fn.results.mapM (resSem tmps) >>= fun vs => pure (if h : vs.size = 1 then vs[0] else .tuple vs)) := by
    unfold results
    refine congrArg (· >>= _) (congrArg (fun f => Array.mapM f fn.results) ?_)
    funext r
    cases r <;> rfl
  rw [e, Array.mapM_eq_mapM_toList, Sem.run_bind]
  have : ((List.toArray <$> fn.results.toList.mapM (resSem tmps)).run P w) = .ok vs.toArray w := by
    rw [← bind_pure_comp, Sem.run_bind, h]
    rfl
  rw [this]
  rfl
theorem resOf_rep (htt : TTok P tt) {σ : St} (S : Sim I B0 M nt x σ.t σ.b a w) {r : ResultVar} {u : V} (h : resOf tt σ r = some u) : ∃ v, (resSem a.tmps r).run P w = .ok v w ∧ RepN x u v := by
  cases r with
  | tmp t =>
    simp only [resOf, Option.some.injEq] at h
    subst h
    exact ⟨_, rfl, (S.tm t).toN.norm⟩
  | cell q t =>
    simp only [resOf] at h
    split at h
    · rename_i i off ti hq ht
      split at h
      · rename_i cs hc
        split at h
        · rename_i v hv
          cases h
          have hp := S.tm q
          rw [hq] at hp
          have hp' : a.tmps.getD q undef = .pointer (some ⟨x.ρ i, off, none⟩) := hp
          obtain ⟨rv, h1, h2⟩ := loadV_rep htt S.ws ht hc hv
          refine ⟨rv, ?_, h2.toN.norm⟩
          show (asAddr (a.tmps.getD q undef) >>= loadVar t).run P w = _
          rw [hp', Sem.run_bind]
          show Result.andThen (.ok _ w) _ = _
          rw [Result.andThen_ok]
          have : (Instr.loadAt t (.pointer (some ⟨x.ρ i, off, none⟩))).run P w = (loadVar t ⟨x.ρ i, off, none⟩).run P w := by
            simp only [Instr.loadAt, Instr.sureAddr]
            rw [Sem.run_bind]
            show Result.andThen (.ok _ w) _ = _
            rw [Result.andThen_ok]
          rw [← this]; exact h1
        · cases h
      · cases h
    · cases h
theorem resAll_rep (htt : TTok P tt) {σ : St} (S : Sim I B0 M nt x σ.t σ.b a w) : ∀ {rs : List ResultVar} {us : List V}, resAll tt σ rs = some us → ∃ vs, (rs.mapM (resSem a.tmps)).run P w = .ok vs w ∧ RepNs x us vs
  | [], us, h => by cases h; exact ⟨[], rfl, rfl⟩
  | r :: rs, us, h => by
    simp only [resAll] at h
    split at h
    · rename_i v us' h1 h2
      cases h
      obtain ⟨rv, g1, g2⟩ := resOf_rep htt S h1
      obtain ⟨vs, g3, g4⟩ := resAll_rep htt S h2
      refine ⟨rv :: vs, ?_, rv, vs, rfl, g2, g4⟩
      rw [List.mapM_cons, Sem.run_bind, g1, Result.andThen_ok, Sem.run_bind, g3, Result.andThen_ok]
      rfl
    · cases h
theorem oneRes_rep {us : List V} {vs : List Value} (h : RepNs x us vs) : RepN x (oneRes us) (if h : vs.toArray.size = 1 then vs.toArray[0] else .tuple vs.toArray) := by
  match us, vs, h with
  | [], _, rfl => exact ⟨#[], rfl, rfl⟩
  | [u], _, ⟨v, _, rfl, r, rfl⟩ => exact r
  | u :: u' :: us, _, ⟨v, _, rfl, r, v', vs, rfl, r', q⟩ =>
    rw [dif_neg (by simp)]
    exact ⟨_, rfl, v, _, rfl, r, v', vs, rfl, r', q⟩
theorem outB_spec {σ : St} {m : Nat} : ∀ {k : Nat} {l : List (List V)}, k ≤ m → outB σ m k = some l → l.length = k ∧ ∀ (j : Nat) c', l[j]? = some c' → ∃ cs, getB σ.b (base + (m - k + j)) = some cs ∧ c' = cellsRen (keepB m) (base + (m - k + j)) (base + (m - k + j)) cs 0
  | 0, l, _, h => by cases h; exact ⟨rfl, fun j c' h => by cases h⟩
  | k + 1, l, hk, h => by
    simp only [outB] at h
    split at h
    · rename_i cs l' h1 h2
      cases h
      obtain ⟨g1, g2⟩ := outB_spec (by omega) h2
      refine ⟨by simp [g1], fun j c' hc => ?_⟩
      cases j with
      | zero => cases hc; exact ⟨cs, h1, rfl⟩
      | succ j =>
        obtain ⟨cs', a1, a2⟩ := g2 j c' hc
        rw [show m - k + j = m - (k + 1) + (j + 1) by omega] at a1 a2
        exact ⟨cs', a1, a2⟩
    · cases h
theorem keepB_some {m i p : Nat} (h : keepB m i = some p) : p = i := by
  unfold keepB at h
  split at h
  · cases h; rfl
  · cases h
theorem WSim.outB (S : WSim I B0 M x b w) {σ : St} (hσ : σ.b = b) {m : Nat} {bx : List (List V)} (h : outB σ m m = some bx) : WSim I B0 M x (number base bx 0) w := by
  subst hσ
  obtain ⟨hl, hs⟩ := outB_spec (Nat.le_refl _) h
  have hget : ∀ i cs', getB (number base bx 0) i = some cs' → ∃ cs, getB σ.b i = some cs ∧ cs' = cellsRen (keepB m) i i cs 0 := fun i cs' hi => by
    rw [getB_number] at hi
    split at hi
    · obtain ⟨cs, h1, h2⟩ := hs _ _ hi
      have e : base + (m - m + (i - (base + 0))) = i := by omega
      rw [e] at h1 h2
      exact ⟨cs, h1, h2⟩
    · cases hi
  refine ⟨S.inv, S.big, S.top, S.agree, fun i cs' hc => ?_, fun i j cs ds hc hd he => ?_, S.zone, S.zinj, fun t k s e i cs' hz hc => ?_⟩
  · obtain ⟨cs, h1, rfl⟩ := hget i cs' hc
    obtain ⟨g1, g2, ws, ty, g3, g4⟩ := S.box i cs h1
    refine ⟨g1, g2, ws, ty, g3, cellsRen_rep (x := x) (x' := x) (fun _ _ _ h => h) (fun q p hq => by rw [keepB_some hq]) g4 (fun _ _ _ _ => rfl)⟩
  · obtain ⟨c1, h1, _⟩ := hget i cs hc
    obtain ⟨c2, h2, _⟩ := hget j ds hd
    exact S.inj i j c1 c2 h1 h2 he
  · obtain ⟨cs, h1, _⟩ := hget i cs' hc
    exact S.zbox t k s e i cs hz h1
theorem RepVs.at_get {us : List V} {l : List Value} (r : RepVs x us l) (i : Nat) : RepV x (us[i]?.getD .undef) (l[i]?.getD undef) := by
  induction us generalizing l i with
  | nil =>
    trivial
  | cons u us ih =>
    obtain ⟨v, vs, rfl, p, q⟩ := r
    cases i with
    | zero => exact p
    | succ i => exact ih q i
def OutOK (I : World → Prop) (B0 : Nat) (M : Nat → Prop) (x : Aux) (w : World) (o : Out) (e : Ending) (w' : World) : Prop :=
  ∃ x', Ext M x w x' w' ∧ match o with
    | .ret v bx' => ∃ rv, e = .returned rv ∧ RepN x' v rv ∧ WSim I B0 M x' (number base bx' 0) w'
    | .pan v bx' => ∃ rv, e = .panicked [{ v := rv, recovered := false }] ∧ RepN x' v rv ∧ WSim I B0 M x' (number base bx' 0) w'
end
/-- a function begins with nothing deferred -/
instance ds0 : Ds := ⟨[], false⟩
section
variable {I : World → Prop} {B0 : Nat} {M : Nat → Prop} {P : Program} {tt : TT} {X : Given} {n nt : Nat} {x : Aux} {t : Tmps} {b : Boxes} {a : Act} {w : World}
/-- where a function begins -/
theorem sim0 {nt : Nat} {args : List V} {vs : Array Value} (hargs : RepVs x args vs.toList) (hle : args.length ≤ nt) (S : WSim I B0 M x b w) : Sim I B0 M nt x (number 0 args 0) b { tmps := vs ++ Array.replicate (nt - vs.size) undef, defers := [] } w := by
  have hlen : vs.size = args.length := by rw [← Array.length_toList, hargs.length]
  refine ⟨fun i => ?_, by simp; omega, rfl, S⟩
  rw [getT_number, if_pos (by omega), Nat.zero_add, Nat.sub_zero]
  have hr := hargs.at_get i
  rcases Nat.lt_or_ge i args.length with hi | hi
  · have : (vs ++ Array.replicate (nt - vs.size) undef).getD i undef = vs.toList[i]?.getD undef := by
      rw [Array.getD_eq_getD_getElem?, Array.getElem?_append_left (by omega), Array.getElem?_toList]
    show RepV x _ ((vs ++ Array.replicate (nt - vs.size) undef).getD i undef)
    rw [this]; exact hr
  · rw [List.getElem?_eq_none hi]; trivial
/-- one function's body -/
theorem body_wp (hm : P.follows .mixedOrders = true) (htt : TTok P tt) (hI : Stable I B0) (hX : GivenOK P X I B0) (hB : Below P tt X I B0 n) {f : FuncId} {fn : Func} {args : List V} {bx : List (List V)} {o : Out} {G : Option (List Nat)} (hf : P.funcs[f]? = some fn) (h : DenN P tt X n Out (evBody tt G fn args bx) o) {vs : Array Value} (hargs : RepVs x args vs.toList) (S : WSim I B0 M x (number base bx 0) w) : ∃ c, fn.body = some c ∧ c.wp P (bodyPost P fn (OutOK I B0 M x w o)) { tmps := vs ++ Array.replicate (fn.ntmps - vs.size) undef, defers := [] } w := by
  unfold evBody at h
  split at h
  · rename_i c hc
    split at h
    · rename_i hok
      simp only [Bool.and_eq_true] at hok
      obtain ⟨⟨hd, ha⟩, hn⟩ := hok
      have hlen : vs.size = args.length := by rw [← Array.length_toList, hargs.length]
      have hle : args.length ≤ fn.ntmps := Nat.le_of_ble_eq_true ha
      obtain ⟨⟨ex, σ⟩, h1, h2⟩ := den_bind h
      have S0 := sim0 hargs hle S
      refine ⟨c, hc, wp_mono (evCode_ok hm htt hI hX (Nat.le_of_ble_eq_true hn) n hB c hd (fun h => by cases h) G _ _ _ _ _ _ _ S0 h1) fun e a2 w2 hb => ?_⟩
      unfold fin at h2
      split at h2
      · exact (den_fail h2).elim
      · rename_i bx' hbx
        obtain ⟨x', g1, g2, g3, g4, g5⟩ := hb
        have S' := g4.outB rfl hbx
        have res : (∀ v, ex ≠ .pan v) → DenN P tt X n Out (match resAll tt σ fn.results.toList with
            | some vs => forceVs vs fun vs => forceBs bx' fun bx => forceV (oneRes vs) fun v => .leaf (.ret v bx)
            | none => .fail) o → a2.defers = [] ∧ ∃ v, (results fn a2.tmps).run P w2 = .ok v w2 ∧ OutOK I B0 M x w o (.returned v) w2 := fun hne h2 => by
          split at h2
          · rename_i us hus
            rw [forceVs_eq, forceBs_eq, forceV_eq] at h2
            obtain rfl := den_leaf h2
            obtain ⟨rvs, k1, k2⟩ := resAll_rep htt (g5 (.inl hne)) hus
            exact ⟨g3, _, results_eq fn a2.tmps w2 k1, x', g2, _, rfl, oneRes_rep k2, S'⟩
          · exact (den_fail h2).elim
        cases ex with
        | normal => obtain rfl := g1; exact res (fun v => by simp) h2
        | ret => obtain rfl := g1; exact res (fun v => by simp) h2
        | exit id => exact (den_fail h2).elim
        | pan v =>
          obtain ⟨rv, rfl, k1⟩ := g1
          simp only at h2
          rw [forceBs_eq] at h2
          obtain rfl := den_leaf h2
          exact ⟨g3, x', g2, rv, rfl, k1, S'⟩
    · exact (den_fail h).elim
  · exact (den_fail h).elim
/-- one function -/
theorem body_ok (hm : P.follows .mixedOrders = true) (htt : TTok P tt) (hI : Stable I B0) (hX : GivenOK P X I B0) (hB : Below P tt X I B0 n) {f : FuncId} {fn : Func} {args : List V} {bx : List (List V)} {o : Out} {G : Option (List Nat)} (hf : P.funcs[f]? = some fn) (h : DenN P tt X n Out (evBody tt G fn args bx) o) : CallOK P I B0 f args bx o := by
  intro M x w vs hargs S
  obtain ⟨c, hc, hw⟩ := body_wp hm htt hI hX hB hf h hargs S
  exact calls_of_wp hf hc hw
/-- every height -/
theorem below_all (hm : P.follows .mixedOrders = true) (htt : TTok P tt) (hI : Stable I B0) (hX : GivenOK P X I B0) : ∀ n, Below P tt X I B0 n := by
  intro n
  induction n with
  | zero => exact fun m hm => absurd hm (Nat.not_lt_zero m)
  | succ n ih =>
    intro m hlt G f fn args bx o hf hn h
    exact body_ok hm htt hI hX (ih.mono (Nat.le_of_lt_succ hlt)) hf h
/-- what the ideal machine comes to, the model's call comes to -/
theorem sound (hm : P.follows .mixedOrders = true) (htt : TTok P tt) (hI : Stable I B0) (hX : GivenOK P X I B0) {f : FuncId} {fn : Func} {args : List V} {bx : List (List V)} {o : Out} {G : Option (List Nat)} (hf : P.funcs[f]? = some fn) (h : Den P tt X (evBody tt G fn args bx) o) : CallOK P I B0 f args bx o := by
  obtain ⟨n, h⟩ := h
  exact body_ok hm htt hI hX (below_all hm htt hI hX n) hf h
end
end Go.Proofs.YtacfbgfphkfobaaGreatDoor.Id
/-! ## IdealW -/
namespace Go.Proofs.YtacfbgfphkfobaaGreatDoor.Id
open Go
set_option linter.unusedVariables false
set_option linter.unusedSimpArgs false
def zeroD : D → Value → Bool
  | .bool a, .bool b => a == b
  | .int k n, .int k' m => decide (k = k') && decide (n = m)
  | .str s, .string t => decide (s = t)
  | .nil _, .slice none 0 0 => true
  | _, _ => false
def zeroV : V → Value → Bool
  | .undef, _ => true
  | .d d, v => zeroD d v
  | _, _ => false
def zerosV : List V → List Value → Bool
  | [], [] => true
  | u :: us, v :: vs => zeroV u v && zerosV us vs
  | _, _ => false
theorem zeroD_rep {h : H} {d : D} {v : Value} (e : zeroD d v = true) : RepD h v d := by
  unfold zeroD at e
  split at e
  · have := eq_of_beq e; subst this; exact .bool _
  · simp only [Bool.and_eq_true, decide_eq_true_eq] at e; obtain ⟨rfl, rfl⟩ := e; exact .int _ _
  · simp only [decide_eq_true_eq] at e; subst e; exact .str _
  · exact .nil _
  · cases e
theorem zeroV_rep {x : Aux} {u : V} {v : Value} (e : zeroV u v = true) : RepV x u v := by
  unfold zeroV at e
  split at e
  · trivial
  · exact zeroD_rep (h := x.h) e
  · cases e
theorem zerosV_rep {x : Aux} : ∀ {us : List V} {vs : List Value}, zerosV us vs = true → RepVs x us vs
  | [], [], _ => rfl
  | u :: us, v :: vs, h => by
    simp only [zerosV, Bool.and_eq_true] at h
    exact ⟨v, vs, rfl, zeroV_rep h.1, zerosV_rep h.2⟩
  | [], _ :: _, h => by cases h
  | _ :: _, [], h => by cases h
def infoOk (P : Program) (t : Nat) (ti : TI) : Bool :=
  match P.info? t with
  | some i => Nat.beq i.size ti.n && match i.zero with
    | some z => zerosV ti.zero z.cells.toList
    | none => false
  | none => false
def scOk (P : Program) (t : Nat) (ti : TI) (d : TypeDesc) : Bool :=
  !d.isRow && Nat.beq ti.n 1 && match ti.zero with
    | [.d y] => P.concrete t && match y, d with
      | .int k _, .int k' => decide (k' = k)
      | .str _, .string => true
      | .bool _, .bool => true
      | .nil _, _ => true
      | .sl _ _, _ => true
      | _, _ => false
    | _ => true
def pairsEq : List (Nat × Nat) → List Field → Bool
  | [], [] => true
  | (a, b) :: r, f :: s => Nat.beq a f.offset && Nat.beq b f.type && pairsEq r s
  | _, _ => false
theorem pairsEq_spec : ∀ {l : List (Nat × Nat)} {fs : List Field}, pairsEq l fs = true → l = fs.map fun f => (f.offset, f.type)
  | [], [], _ => rfl
  | (a, b) :: r, f :: s, h => by
    simp only [pairsEq, Bool.and_eq_true] at h
    rw [Nat.eq_of_beq_eq_true h.1.1, Nat.eq_of_beq_eq_true h.1.2, pairsEq_spec h.2]; rfl
  | [], _ :: _, h => by cases h
  | _ :: _, [], h => by cases h
def slOk (P : Program) (ti : TI) (e n by_ : Nat) : Bool :=
  Nat.beq ti.n 1 && (match P.info? e with
    | some i => Nat.beq i.size n && Nat.beq i.bytes by_ && (match i.zero with
      | some z => Nat.beq z.cells.size n
      | none => false) && Nat.blt 0 n && Nat.blt 0 by_
    | none => false) && (!ti.cmp || match P.underlying e with
      | some (.int .u8) => true
      | _ => false)
def tiOk (P : Program) (t : Nat) (ti : TI) : Bool :=
  infoOk P t ti && match ti.k, P.underlying t with
    | .sc, some d => scOk P t ti d
    | .agg fs, some (.struct fields) => pairsEq fs fields.toList && (fields.toList.all fun f => !Nat.beq (P.cellsOf f.type) 0) && (!ti.cmp || (!P.stoodInHeld t && !P.eqGuardType P.depth t && flatOk P ti.zero fields.toList 0))
    | .arr e len, some (.array len' e') => Nat.beq len len' && Nat.beq e e'
    | .sl e n by_, some (.slice e') => Nat.beq e e' && slOk P ti e n by_
    | _, _ => false
def ttOk (P : Program) : TT → Bool
  | [] => true
  | (t, ti) :: r => tiOk P t ti && ttOk P r
theorem tiOk_spec {P : Program} {t : Nat} {ti : TI} (h : tiOk P t ti = true) : TIok P t ti := by
  simp only [tiOk, Bool.and_eq_true] at h
  obtain ⟨h1, h2⟩ := h
  refine ⟨?_, ?_⟩
  · unfold infoOk at h1
    split at h1
    · rename_i i hi
      simp only [Bool.and_eq_true] at h1
      split at h1
      · rename_i z hz
        exact ⟨i, z, hi, Nat.eq_of_beq_eq_true h1.1, hz, fun x => zerosV_rep h1.2⟩
      · cases h1.2
    · cases h1
  · split at h2
    · rename_i d hk hd
      rw [hk]
      simp only [scOk, Bool.and_eq_true, Bool.not_eq_true'] at h2
      refine ⟨d, hd, h2.1.1, Nat.eq_of_beq_eq_true h2.1.2, fun k z hz => ?_, fun s hz => ?_, fun c hz => ?_, fun y hz => ?_⟩
      all_goals
        have h3 := h2.2
        rw [hz] at h3
        simp only [Bool.and_eq_true] at h3
      · cases d <;> first | (cases h3.2; done) | (simp at h3; rw [h3.2])
      · cases d <;> first | rfl | (cases h3.2; done)
      · cases d <;> first | rfl | (cases h3.2; done)
      · exact h3.1
    · rename_i fs fields hk hd
      rw [hk]
      simp only [Bool.and_eq_true, Bool.or_eq_true, Bool.not_eq_true'] at h2
      refine ⟨fields, hd, pairsEq_spec h2.1.1, fun f hf => ?_, fun hc => ?_⟩
      · have := List.all_eq_true.1 h2.1.2 f hf
        intro e
        rw [e] at this; cases this
      · rcases h2.2 with h3 | h3
        · rw [hc] at h3; cases h3
        · exact ⟨h3.1.1, h3.1.2, h3.2⟩
    · rename_i e len len' e' hk hd
      rw [hk]
      simp only [Bool.and_eq_true] at h2
      show P.underlying t = some (.array len e)
      rw [hd, Nat.eq_of_beq_eq_true h2.1, Nat.eq_of_beq_eq_true h2.2]
    · rename_i e n by_ e' hk hd
      rw [hk]
      simp only [Bool.and_eq_true, slOk] at h2
      obtain ⟨he, ⟨hn, hi⟩, hc⟩ := h2
      refine ⟨by rw [hd, Nat.eq_of_beq_eq_true he], Nat.eq_of_beq_eq_true hn, ?_, fun hcc => ?_⟩
      · split at hi
        · rename_i i hi'
          simp only [Bool.and_eq_true] at hi
          obtain ⟨⟨⟨⟨a1, a2⟩, a3⟩, a4⟩, a5⟩ := hi
          split at a3
          · rename_i z hz
            exact ⟨i, z, hi', Nat.eq_of_beq_eq_true a1, Nat.eq_of_beq_eq_true a2, hz, Nat.eq_of_beq_eq_true a3, Nat.le_of_ble_eq_true a4, Nat.le_of_ble_eq_true a5⟩
          · cases a3
        · cases hi
      · rw [hcc] at hc
        simp only [Bool.not_true, Bool.false_or] at hc
        split at hc
        · assumption
        · cases hc
    · cases h2
theorem ttOk_spec {P : Program} : ∀ {tt : TT}, ttOk P tt = true → TTok P tt
  | [], _, t, ti, h => by cases h
  | (j, tj) :: r, hc, t, ti, h => by
    simp only [ttOk, Bool.and_eq_true] at hc
    simp only [TT.get] at h
    split at h
    · rename_i e
      cases h
      rw [← Nat.eq_of_beq_eq_true e]; exact tiOk_spec hc.1
    · exact ttOk_spec hc.2 t ti h
end Go.Proofs.YtacfbgfphkfobaaGreatDoor.Id
/-! ## Tt -/
namespace Go.Proofs.YtacfbgfphkfobaaGreatDoor.Id
open Go
def tt : TT := [
  (4, ⟨.sc, 1, [.d (.bool false)], true⟩),
  (3, ⟨.sc, 1, [.d (.int .i64 0)], true⟩),
  (9, ⟨.sc, 1, [.d (.str .empty)], true⟩),
  (43, ⟨.agg [(0, 36), (1, 3), (2, 9), (3, 9), (4, 39), (8, 40), (9, 41)], 10, [.d (.int .i64 0), .d (.int .i64 0), .d (.str .empty), .d (.str .empty), .d (.int .i64 0), .d (.int .i64 0), .d (.bool false), .d (.str .empty), .d (.int .i64 0), .d (.nil 10)], false⟩),
  (29, ⟨.agg [(0, 27), (1, 3)], 2, [.d (.int .i64 0), .d (.int .i64 0)], true⟩),
  (113, ⟨.sc, 1, [.undef], true⟩),
  (80, ⟨.sc, 1, [.undef], true⟩),
  (5, ⟨.sc, 1, [.d (.int .u8 0)], true⟩),
  (75, ⟨.sl 9 1 16, 1, [.d (.nil 1)], false⟩),
  (26, ⟨.agg [(0, 22), (1, 23), (2, 24)], 3, [.d (.nil 3), .d (.nil 13), .d (.nil 6)], false⟩),
  (69, ⟨.agg [(0, 67), (1, 3), (2, 3)], 3, [.d (.int .i64 0), .d (.int .i64 0), .d (.int .i64 0)], true⟩),
  (52, ⟨.agg [(0, 50), (1, 3), (2, 9), (3, 43), (13, 47), (14, 47), (15, 4)], 16, [.d (.int .i64 0), .d (.int .i64 0), .d (.str .empty), .d (.int .i64 0), .d (.int .i64 0), .d (.str .empty), .d (.str .empty), .d (.int .i64 0), .d (.int .i64 0), .d (.bool false), .d (.str .empty), .d (.int .i64 0), .d (.nil 10), .d (.nil 16), .d (.nil 16), .d (.bool false)], false⟩),
  (47, ⟨.sl 52 16 208, 1, [.d (.nil 16)], false⟩),
  (27, ⟨.sc, 1, [.d (.int .i64 0)], true⟩),
  (39, ⟨.agg [(0, 37), (1, 2), (2, 4), (3, 9)], 4, [.d (.int .i64 0), .d (.int .i64 0), .d (.bool false), .d (.str .empty)], true⟩),
  (41, ⟨.sl 43 10 120, 1, [.d (.nil 10)], false⟩),
  (85, ⟨.agg [(0, 9), (1, 64), (2, 29), (4, 3), (5, 3), (6, 3), (7, 29)], 9, [.d (.str .empty), .d (.nil 3), .d (.int .i64 0), .d (.int .i64 0), .d (.int .i64 0), .d (.int .i64 0), .d (.int .i64 0), .d (.int .i64 0), .d (.int .i64 0)], false⟩),
  (67, ⟨.sc, 1, [.d (.int .i64 0)], true⟩),
  (95, ⟨.sl 5 1 1, 1, [.d (.nil 1)], true⟩),
  (49, ⟨.agg [(0, 9), (1, 4), (2, 3), (3, 46), (4, 37), (5, 47)], 6, [.d (.str .empty), .d (.bool false), .d (.int .i64 0), .d (.nil 2), .d (.int .i64 0), .d (.nil 16)], false⟩),
  (40, ⟨.sc, 1, [.d (.int .i64 0)], true⟩),
  (37, ⟨.sc, 1, [.d (.int .i64 0)], true⟩),
  (23, ⟨.sl 45 13 152, 1, [.d (.nil 13)], false⟩),
  (24, ⟨.sl 49 6 88, 1, [.d (.nil 6)], false⟩),
  (46, ⟨.sl 54 2 24, 1, [.d (.nil 2)], false⟩),
  (64, ⟨.sl 69 3 24, 1, [.d (.nil 3)], false⟩),
  (22, ⟨.sl 56 3 40, 1, [.d (.nil 3)], false⟩),
  (45, ⟨.agg [(0, 9), (1, 4), (2, 3), (3, 43)], 13, [.d (.str .empty), .d (.bool false), .d (.int .i64 0), .d (.int .i64 0), .d (.int .i64 0), .d (.str .empty), .d (.str .empty), .d (.int .i64 0), .d (.int .i64 0), .d (.bool false), .d (.str .empty), .d (.int .i64 0), .d (.nil 10)], false⟩),
  (56, ⟨.agg [(0, 9), (1, 9), (2, 3)], 3, [.d (.str .empty), .d (.str .empty), .d (.int .i64 0)], true⟩),
  (2, ⟨.sc, 1, [.d (.int .i64 0)], true⟩),
  (36, ⟨.sc, 1, [.d (.int .i64 0)], true⟩),
  (50, ⟨.sc, 1, [.d (.int .i64 0)], true⟩),
  (101, ⟨.agg [(0, 9), (1, 3), (2, 3), (3, 69), (6, 9), (7, 3)], 8, [.d (.str .empty), .d (.int .i64 0), .d (.int .i64 0), .d (.int .i64 0), .d (.int .i64 0), .d (.int .i64 0), .d (.str .empty), .d (.int .i64 0)], false⟩),
  (122, ⟨.sc, 1, [.undef], true⟩),
  (54, ⟨.agg [(0, 9), (1, 37)], 2, [.d (.str .empty), .d (.int .i64 0)], true⟩),
  (148, ⟨.sc, 1, [.d (.int .u64 0)], true⟩),
  (124, ⟨.agg [(0, 122), (1, 95)], 2, [.undef, .d (.nil 1)], false⟩),
  (90, ⟨.sc, 1, [.undef], true⟩),
  (20, ⟨.sc, 1, [.undef], true⟩),
  (83, ⟨.sc, 1, [.undef], true⟩),
  (82, ⟨.sc, 1, [.undef], true⟩),
  (71, ⟨.sl 95 1 24, 1, [.d (.nil 1)], false⟩),
  (136, ⟨.agg [(0, 29)], 2, [.d (.int .i64 0), .d (.int .i64 0)], false⟩),
  (159, ⟨.arr 9 14, 14, [.d (.str .empty), .d (.str .empty), .d (.str .empty), .d (.str .empty), .d (.str .empty), .d (.str .empty), .d (.str .empty), .d (.str .empty), .d (.str .empty), .d (.str .empty), .d (.str .empty), .d (.str .empty), .d (.str .empty), .d (.str .empty)], false⟩),
  (166, ⟨.arr 9 16, 16, [.d (.str .empty), .d (.str .empty), .d (.str .empty), .d (.str .empty), .d (.str .empty), .d (.str .empty), .d (.str .empty), .d (.str .empty), .d (.str .empty), .d (.str .empty), .d (.str .empty), .d (.str .empty), .d (.str .empty), .d (.str .empty), .d (.str .empty), .d (.str .empty)], false⟩),
  (170, ⟨.arr 9 7, 7, [.d (.str .empty), .d (.str .empty), .d (.str .empty), .d (.str .empty), .d (.str .empty), .d (.str .empty), .d (.str .empty)], false⟩),
  (126, ⟨.sc, 1, [.undef], true⟩),
  (160, ⟨.sl 40 1 8, 1, [.d (.nil 1)], false⟩),
  (63, ⟨.sc, 1, [.d (.int .u16 0)], true⟩),
  (118, ⟨.sc, 1, [.undef], true⟩),
  (103, ⟨.sc, 1, [.undef], true⟩),
  (151, ⟨.sc, 1, [.undef], true⟩),
  (1, ⟨.sc, 1, [.undef], true⟩),
  (173, ⟨.sc, 1, [.undef], true⟩)]
theorem tt_ok : TTok Tryz.prog tt := ttOk_spec (by kernel_rfl)
theorem mixed : Tryz.prog.follows .mixedOrders = true := by kernel_rfl
end Go.Proofs.YtacfbgfphkfobaaGreatDoor.Id
/-! ## IdBase -/
namespace Go.Proofs.YtacfbgfphkfobaaGreatDoor.Id
open Go
set_option linter.unusedVariables false
set_option linter.unusedSimpArgs false
/-- a function's loops, in the order of the text -/
def loopsIn : Code → List Code
  | .seq a b | .cond _ a b => loopsIn a ++ loopsIn b
  | .block _ c => loopsIn c
  | .loop c => c :: loopsIn c
  | _ => []
def lp (f : Func) (n : Nat) : Code := match f.body with
  | some c => (loopsIn c)[n]?.getD .skip
  | none => .skip
theorem wrapI {x : Int} (h0 : -9223372036854775808 ≤ x) (h : x < 9223372036854775808) : IntKind.wrap .i64 x = x := by
  simp only [IntKind.wrap, IntKind.signed, IntKind.bits]
  simp
  omega
/-! ### what is left of a list -/
theorem drop_none {α : Type} {l : List α} {i : Nat} (h : l.drop i = []) : l.length ≤ i := List.drop_eq_nil_iff.mp h
theorem drop_some {α : Type} {l : List α} {i : Nat} {x : α} {r : List α} (h : l.drop i = x :: r) : i < l.length ∧ (∀ d, l.getD i d = x) ∧ l.drop (i + 1) = r := by
  have hi : i < l.length := by
    rcases Nat.lt_or_ge i l.length with h1 | h1
    · exact h1
    · rw [List.drop_eq_nil_of_le h1] at h; cases h
  rw [List.drop_eq_getElem_cons hi] at h
  injection h with h1 h2
  refine ⟨hi, fun d => ?_, h2⟩
  rw [List.getD_eq_getElem?_getD, List.getElem?_eq_getElem hi]; exact h1
theorem take_drop_succ {α : Type} {l : List α} {i : Nat} {x : α} {r : List α} (h : l.drop i = x :: r) : l.take (i + 1) = l.take i ++ [x] := by
  have hi := (drop_some h).1
  rw [List.take_succ_eq_append_getElem hi]
  have := (drop_some h).2.1 x
  rw [List.getD_eq_getElem?_getD, List.getElem?_eq_getElem hi] at this
  simp at this; rw [this]

/-! ### bytes -/
abbrev L (s : ByteArray) : List UInt8 := s.data.toList
abbrev mkB (l : List UInt8) : ByteArray := ⟨l.toArray⟩
theorem L_mkB (l : List UInt8) : L (mkB l) = l := by simp [L, mkB]
theorem mkB_L (s : ByteArray) : mkB (L s) = s := by obtain ⟨⟨l⟩⟩ := s; rfl
theorem L_inj {a b : ByteArray} (h : L a = L b) : a = b := by rw [← mkB_L a, h, mkB_L]
theorem L_length (s : ByteArray) : (L s).length = s.size := by obtain ⟨⟨l⟩⟩ := s; rfl
theorem toList_L (s : ByteArray) : s.toList = L s := Lib.toList_data s
theorem toList_inj {a b : ByteArray} : a.toList = b.toList ↔ a = b := by
  rw [toList_L, toList_L]; exact ⟨L_inj, fun h => by rw [h]⟩
theorem L_append (a b : ByteArray) : L (a ++ b) = L a ++ L b := by simp [L]
theorem L_extract (s : ByteArray) (a b : Nat) : L (s.extract a b) = ((L s).drop a).take (b - a) := Lib.extract_data s a b
theorem bt_drop {s : ByteArray} {i : Nat} {c : UInt8} {r : List UInt8} (h : (L s).drop i = c :: r) : bt s (i : Int) = (c.toNat : Int) ∧ i < s.size := by
  obtain ⟨h1, h2, _⟩ := drop_some h
  rw [L_length] at h1
  refine ⟨?_, h1⟩
  have h3 := h2 0
  obtain ⟨⟨l⟩⟩ := s
  have h4 : i < l.length := h1
  simp only [L] at h3
  rw [List.getD_eq_getElem?_getD, List.getElem?_eq_getElem h4] at h3
  unfold bt
  have h5 : ((i : Int)).toNat = i := by omega
  simp only [h5]
  rw [dif_pos h1]
  have : (⟨⟨l⟩⟩ : ByteArray)[i]'h1 = l[i]'h4 := rfl
  rw [this]
  simp at h3
  rw [h3]
theorem size_eq_L (s : ByteArray) : s.size = (L s).length := (L_length s).symm

/-! ### calls -/
def Does (X : Given) (f : FuncId) (args : List V) (bx : List (List V)) (o : Out) : Prop := ∀ (α : Type) (k : Out → T α) (a : α), Den Tryz.prog tt X (k o) a → Den Tryz.prog tt X (.call f args bx k) a
theorem Does.of {X : Given} {f : FuncId} {fn : Func} {args : List V} {bx : List (List V)} {o : Out} (hf : Tryz.prog.funcs[f]? = some fn) (hn : (fn.name == "runtime.NumGoroutine") = false) (h : Den Tryz.prog tt X (evBody tt none fn args bx) o) : Does X f args bx o := fun _ _ _ g => Den.enter o hf hn h g
theorem Does.ext {X : Given} {f : FuncId} {args : List V} {bx : List (List V)} {o : Out} (h : X f args bx o) : Does X f args bx o := fun _ _ _ g => Den.ext o h g
theorem Does.use {X : Given} {α : Type} {f : FuncId} {args : List V} {bx : List (List V)} {k : Out → T α} {o : Out} {a : α} (h : Does X f args bx o) (g : Den Tryz.prog tt X (k o) a) : Den Tryz.prog tt X (.call f args bx k) a := h α k a g
/-- a text, a whole number, a byte -/
abbrev vS (s : ByteArray) : V := .d (.str s)
abbrev vI (z : Int) : V := .d (.int .i64 z)
abbrev vC (c : UInt8) : V := .d (.int .u8 (c.toNat : Int))
abbrev vB (b : Bool) : V := .d (.bool b)
end Go.Proofs.YtacfbgfphkfobaaGreatDoor.Id
/-! ## IdWp -/
namespace Go.Proofs.YtacfbgfphkfobaaGreatDoor.Id
open Go
set_option linter.unusedVariables false
set_option linter.unusedSimpArgs false
theorem WkVs.refl (σ : St) : ∀ l : List V, WkVs σ l l
  | [] => trivial
  | _ :: r => ⟨.inl rfl, WkVs.refl σ r⟩
theorem WkB.box {σ : St} {i : Nat} {cs : List V} (h : getB σ.b i = some cs) : ∃ us, getB σ.b i = some us ∧ WkVs σ cs us := ⟨cs, h, WkVs.refl σ cs⟩
def WP {α : Type} (X : Given) (t : T α) (Q : α → Prop) : Prop := ∃ a, Q a ∧ Den Tryz.prog tt X t a
/-- a call of a function comes to something of which R holds -/
def DoesQ (X : Given) (f : FuncId) (args : List V) (bx : List (List V)) (R : Out → Prop) : Prop := ∃ o, R o ∧ Does X f args bx o
section
variable {X : Given} {α : Type} {Q : α → Prop}
theorem WP.leaf {a : α} (h : Q a) : WP X (.leaf a) Q := ⟨a, h, Den.leaf a⟩
theorem WP.iteT {b : Bool} {x y : T α} (h : b = true) (k : WP X x Q) : WP X (.ite b x y) Q := let ⟨a, q, k⟩ := k; ⟨a, q, Den.iteT h k⟩
theorem WP.iteF {b : Bool} {x y : T α} (h : b = false) (k : WP X y Q) : WP X (.ite b x y) Q := let ⟨a, q, k⟩ := k; ⟨a, q, Den.iteF h k⟩
theorem WP.ite {b : Bool} {x y : T α} (h1 : b = true → WP X x Q) (h2 : b = false → WP X y Q) : WP X (.ite b x y) Q := by
  cases b
  · exact .iteF rfl (h2 rfl)
  · exact .iteT rfl (h1 rfl)
theorem WP.dec {p : Prop} [Decidable p] {x y : T α} (h1 : p → WP X x Q) (h2 : ¬ p → WP X y Q) : WP X (.ite (decide p) x y) Q :=
  .ite (fun h => h1 (of_decide_eq_true h)) (fun h => h2 (of_decide_eq_false h))
theorem WP.asrt {p : Prop} {x : T α} (h : p) (k : WP X x Q) : WP X (.asrt p x) Q := let ⟨a, q, k⟩ := k; ⟨a, q, Den.asrt h k⟩
theorem WP.idx {es : List (List D)} {j : Int} {f : List D → T α} (e : List D) (h0 : 0 ≤ j) (h : es[j.toNat]? = some e) (k : WP X (f e) Q) : WP X (.idx es j f) Q := let ⟨a, q, k⟩ := k; ⟨a, q, Den.idx e h0 h k⟩
theorem WP.bytes {es : List (List D)} {f : ByteArray → T α} (bs : List UInt8) (h : es = bs.map byteD) (k : WP X (f ⟨bs.toArray⟩) Q) : WP X (.bytes es f) Q := let ⟨a, q, k⟩ := k; ⟨a, q, Den.bytes bs h k⟩
theorem WP.mono {t : T α} {R : α → Prop} (h : WP X t R) (k : ∀ a, R a → Q a) : WP X t Q := let ⟨a, q, d⟩ := h; ⟨a, k a q, d⟩
theorem WP.use {f : FuncId} {args : List V} {bx : List (List V)} {g : Out → T α} {R : Out → Prop} (h : DoesQ X f args bx R) (k : ∀ o, R o → WP X (g o) Q) : WP X (.call f args bx g) Q := by
  obtain ⟨o, hR, hD⟩ := h
  obtain ⟨a, q, d⟩ := k o hR
  exact ⟨a, q, hD α g a d⟩
theorem WP.use1 {f : FuncId} {args : List V} {bx : List (List V)} {g : Out → T α} {o : Out} (h : Does X f args bx o) (k : WP X (g o) Q) : WP X (.call f args bx g) Q := by
  obtain ⟨a, q, d⟩ := k
  exact ⟨a, q, h α g a d⟩
theorem WP.bind {β : Type} {t : T α} {f : α → T β} {R : β → Prop} (h : WP X t Q) (k : ∀ a, Q a → WP X (f a) R) : WP X (t.bind f) R := by
  obtain ⟨a, q, d⟩ := h
  obtain ⟨b, r, e⟩ := k a q
  exact ⟨b, r, d.bind e⟩
/-- one round of a loop: it ends in another round, or leaves the loop -/
def Round (X : Given) (c : Code) (k : Ex → St → T α) (Q : α → Prop) : Ex × St → Prop
  | (.normal, σ) => WP X (.loop c σ k) Q
  | (.exit i, σ) => ∃ σ3, Wk σ3 σ ∧ WP X (k (.exit i) σ3) Q
  | (.ret, σ) => ∃ σ3, Wk σ3 σ ∧ WP X (k .ret σ3) Q
  | (.pan v, σ) => WP X (k (.pan v) σ) Q
theorem WP.roundG (G : Option (List Nat)) {c : Code} {σ : St} {k : Ex → St → T α} (σ' : St) (w : Wk σ' σ) (h : WP X (evCode tt G c σ'.t σ'.b) (Round X c k Q)) : WP X (.loop c σ k) Q := by
  obtain ⟨⟨e, σ2⟩, q, d⟩ := h
  cases e with
  | normal => obtain ⟨a, qa, da⟩ := q; exact ⟨a, qa, Den.loopN σ' w d da⟩
  | exit i => obtain ⟨σ3, w3, a, qa, da⟩ := q; exact ⟨a, qa, Den.loopW σ' σ3 (by simp) (by simp) w d w3 da⟩
  | ret => obtain ⟨σ3, w3, a, qa, da⟩ := q; exact ⟨a, qa, Den.loopW σ' σ3 (by simp) (by simp) w d w3 da⟩
  | pan v => obtain ⟨a, qa, da⟩ := q; exact ⟨a, qa, Den.loopX σ' (by simp) w d da⟩
theorem WP.round {c : Code} {σ : St} {k : Ex → St → T α} (σ' : St) (w : Wk σ' σ) (h : WP X (evCode tt none c σ'.t σ'.b) (Round X c k Q)) : WP X (.loop c σ k) Q := WP.roundG none σ' w h
end
/-- a function's body; G: the temporaries that outlive a region -/
theorem DoesQ.ofG {X : Given} (G : List Nat) {f : FuncId} {fn : Func} {args : List V} {bx : List (List V)} {R : Out → Prop} (hf : Tryz.prog.funcs[f]? = some fn) (hn : (fn.name == "runtime.NumGoroutine") = false) (h : WP X (evBody tt (some G) fn args bx) R) : DoesQ X f args bx R :=
  let ⟨o, r, d⟩ := h; ⟨o, r, fun _ _ _ g => Den.enter o hf hn d g⟩
theorem DoesQ.of {X : Given} {f : FuncId} {fn : Func} {args : List V} {bx : List (List V)} {R : Out → Prop} (hf : Tryz.prog.funcs[f]? = some fn) (hn : (fn.name == "runtime.NumGoroutine") = false) (h : WP X (evBody tt none fn args bx) R) : DoesQ X f args bx R :=
  let ⟨o, r, d⟩ := h; ⟨o, r, Does.of hf hn d⟩
theorem DoesQ.mono {X : Given} {f : FuncId} {args : List V} {bx : List (List V)} {R S : Out → Prop} (h : DoesQ X f args bx R) (k : ∀ o, R o → S o) : DoesQ X f args bx S := let ⟨o, r, d⟩ := h; ⟨o, k o r, d⟩
theorem DoesQ.eq {X : Given} {f : FuncId} {args : List V} {bx : List (List V)} {o : Out} (h : DoesQ X f args bx (· = o)) : Does X f args bx o := by obtain ⟨_, rfl, d⟩ := h; exact d
theorem Does.toQ {X : Given} {f : FuncId} {args : List V} {bx : List (List V)} {o : Out} {R : Out → Prop} (h : Does X f args bx o) (r : R o) : DoesQ X f args bx R := ⟨o, r, h⟩
end Go.Proofs.YtacfbgfphkfobaaGreatDoor.Id
/-! ## DenGap -/
namespace Go.Proofs.YtacfbgfphkfobaaGreatDoor.Id
open Go
set_option linter.unusedVariables false
set_option linter.unusedSimpArgs false
def isSp (c : UInt8) : Bool := decide (c.toNat = 32) || decide (c.toNat = 9) || decide (c.toNat = 10) || decide (c.toNat = 13)
def isSl (c : UInt8) : Bool := decide (c.toNat = 47)
def isNl (c : UInt8) : Bool := decide (c.toNat = 10)
def headSl : List UInt8 → Bool
  | [] => false
  | d :: _ => isSl d
/-- how many bytes of a gap stand at the front; true: in a comment -/
def gapL : Bool → List UInt8 → Nat
  | _, [] => 0
  | true, c :: r => if isNl c = true then 1 + gapL false r else 1 + gapL true r
  | false, c :: r => if isSp c = true then 1 + gapL false r else if (isSl c && headSl r) = true then 1 + gapL true r else 0
theorem gapL_le : ∀ (l : List UInt8) (b : Bool), gapL b l ≤ l.length
  | [], b => by cases b <;> simp [gapL]
  | c :: r, true => by
    have := gapL_le r false; have := gapL_le r true
    unfold gapL; simp only [List.length_cons]; split <;> omega
  | c :: r, false => by
    have := gapL_le r false; have := gapL_le r true
    unfold gapL; simp only [List.length_cons]; split
    · omega
    · split <;> omega
theorem gapL_true_take (l : List UInt8) : gapL true l = (l.takeWhile (fun c => !isNl c)).length + gapL false (l.drop (l.takeWhile (fun c => !isNl c)).length) := by
  induction l with
  | nil => simp [gapL]
  | cons c r ih =>
    by_cases h : isNl c = true
    · have h2 : isSp c = true := by unfold isNl at h; unfold isSp; simp at h; simp [h]
      simp [gapL, h, h2]
    · simp only [Bool.not_eq_true] at h
      simp only [gapL, h]
      rw [List.takeWhile_cons, h]
      simp only [Bool.not_false, if_true, List.length_cons, List.drop_succ_cons, Bool.false_eq_true, if_false]
      omega
/-- the gap is one of what is cut behind it too -/
theorem gapL_cut : ∀ (l : List UInt8) (b : Bool) (m : Nat), gapL b l ≤ m → gapL b (l.take m) = gapL b l
  | [], b, m, h => by simp
  | c :: r, b, 0, h => by
    have : gapL b (c :: r) = 0 := by omega
    rw [this]; cases b <;> simp [gapL]
  | c :: r, true, m + 1, h => by
    rw [List.take_succ_cons]
    unfold gapL at h ⊢
    by_cases hc : isNl c = true
    · simp only [hc, if_true] at h ⊢
      rw [gapL_cut r false m (by omega)]
    · simp only [hc, if_false, Bool.false_eq_true] at h ⊢
      rw [gapL_cut r true m (by omega)]
  | c :: r, false, m + 1, h => by
    rw [List.take_succ_cons]
    unfold gapL at h ⊢
    by_cases hc : isSp c = true
    · simp only [hc, if_true] at h ⊢
      rw [gapL_cut r false m (by omega)]
    · simp only [hc, if_false, Bool.false_eq_true] at h ⊢
      cases r with
      | nil => simp
      | cons d r =>
        by_cases hd : (isSl c && headSl (d :: r)) = true
        · simp only [hd, if_true] at h ⊢
          have h1 : 1 ≤ gapL true (d :: r) := by unfold gapL; split <;> omega
          have h2 : headSl ((d :: r).take m) = headSl (d :: r) := by
            cases m with
            | zero => omega
            | succ m => simp [headSl]
          rw [h2, if_pos hd, gapL_cut (d :: r) true m (by omega)]
        · rw [if_neg hd]
          cases m with
          | zero => simp [headSl]
          | succ m => rw [List.take_succ_cons]; exact if_neg (by simpa [headSl] using hd)
/-- behind a gap no gap stands -/
theorem gapL_after : ∀ (l : List UInt8) (b : Bool), gapL false (l.drop (gapL b l)) = 0
  | [], b => by cases b <;> simp [gapL]
  | c :: r, true => by
    by_cases hc : isNl c = true
    · simp only [gapL, hc, if_true]; rw [Nat.add_comm, List.drop_succ_cons]; exact gapL_after r false
    · simp only [gapL, hc, if_false, Bool.false_eq_true]; rw [Nat.add_comm, List.drop_succ_cons]; exact gapL_after r true
  | c :: r, false => by
    by_cases hc : isSp c = true
    · simp only [gapL, hc, if_true]; rw [Nat.add_comm, List.drop_succ_cons]; exact gapL_after r false
    · by_cases hd : (isSl c && headSl r) = true
      · simp only [gapL, hc, if_false, Bool.false_eq_true, hd, if_true]; rw [Nat.add_comm, List.drop_succ_cons]; exact gapL_after r true
      · have : gapL false (c :: r) = 0 := by simp only [gapL, hc, if_false, Bool.false_eq_true, hd]
        rw [this]; exact this


theorem idx_sp_iff (c : UInt8) : (Lib.indexByte [32, 9, 10, 13] c ≥ 0) ↔ isSp c = true := by
  have : ∀ n : Fin 256, (decide (Lib.indexByte [32, 9, 10, 13] (UInt8.ofNat n.val) ≥ 0)) = isSp (UInt8.ofNat n.val) := by decide +kernel
  have h := this ⟨c.toNat, c.toNat_lt⟩
  simp only [UInt8.ofNat_toNat] at h
  rw [← h]; simp
variable {X : Given}
/-- what lex.whole tells of digits -/
def wholeV (l : List UInt8) : V :=
  match Lib.parseIntB 64 l with
  | .ok v => .tuple [vI v, vB (decide (Lib.itoa v = l))]
  | .range => .tuple [vI 9223372036854775807, vB false]
  | _ => .undef
/-- what is given of the library's functions -/
structure LibX (X : Given) : Prop where
  wh : ∀ (s : ByteArray) (c : UInt8) (r : List UInt8), L s = c :: r → 48 ≤ c.toNat ∧ c.toNat ≤ 57 → s.size ≤ 1099511627776 → Lib.parseIntB 64 (L s) ≠ Lib.NumEnd.syntax → X 120 [vS s] [] (.ret (wholeV (L s)) [])
  ib : ∀ (s : ByteArray) (c : UInt8), X 134 [vS s, vC c] [] (.ret (vI (Lib.indexByte s.data.toList c)) [])
theorem indexByte (hX : LibX X) (s : ByteArray) (c : UInt8) : Does X 112 [vS s, vC c] [] (.ret (vI (Lib.indexByte s.data.toList c)) []) := by
  refine Does.of (Tryz.func112) (by kernel_rfl) ?_
  exact Den.ext _ (hX.ib s c) (Den.leaf _)
theorem hasPrefix (s p : ByteArray) : Does X 113 [vS s, vS p] [] (.ret (vB (decide (L p <+: L s))) []) := by
  refine Does.of (Tryz.func113) (by kernel_rfl) ?_
  refine Does.use (o := .ret (vB (decide (L p <+: L s))) []) (Does.of (Tryz.func135) (by kernel_rfl) ?_) (Den.leaf _)
  by_cases h : p.size ≤ s.size
  · refine Den.iteT (by simp; omega) ?_
    refine Den.asrt (by simp only [Option.getD_none, Option.getD_some]; omega) ?_
    refine Den.leaf' ?_
    congr 3
    have e : L (s.extract 0 p.size) = (L s).take p.size := by rw [L_extract]; simp
    show decide ((s.extract (Option.getD none (0 : Int)).toNat ((p.size : Int)).toNat) = p) = _
    have e2 : s.extract (Option.getD none (0 : Int)).toNat ((p.size : Int)).toNat = s.extract 0 p.size := rfl
    rw [e2, decide_eq_decide]
    constructor
    · intro h1
      rw [← h1, e]; exact List.take_prefix _ _
    · intro h1
      refine L_inj ?_
      rw [e, ← L_length]
      exact (List.prefix_iff_eq_take.1 h1).symm
  · refine Den.iteF (by simp; omega) ?_
    refine Den.leaf' ?_
    congr 3
    have : ¬ (L p <+: L s) := fun h1 => h (by have := h1.length_le; rw [L_length, L_length] at this; exact this)
    simp [this]
theorem nl_fn (c : UInt8) : Does X 115 [vC c] [] (.ret (vB (!isNl c)) []) := by
  refine Does.of (Tryz.func115) (by kernel_rfl) ?_
  refine Den.leaf' ?_
  unfold isNl
  congr 4
  have : ((c.toNat : Int) = 10) ↔ (c.toNat = 10) := by omega
  simp [this]
/-- a run of bytes of a kind -/
theorem run_loop (s : ByteArray) (hs : s.size ≤ 1048576) (i : Nat) (f : FuncId) (p : UInt8 → Bool) (hf : ∀ c, Does X f [vC c] [] (.ret (vB (p c)) [])) (K : Ex → St → T Out) (o : Out) :
    ∀ (r : List UInt8) (n : Nat), i + n ≤ s.size → (L s).drop (i + n) = r → Den Tryz.prog tt X (K (.exit 0) ⟨[(7, vI ((n + (r.takeWhile p).length : Nat) : Int))], []⟩) o → ∀ σ : St, getT σ.t 0 = vS s → getT σ.t 1 = vI i → getT σ.t 2 = .fn f [] [] → getT σ.t 7 = vI n →
      Den Tryz.prog tt X (.loop (lp Tryz.f114 0) σ K) o
  | [], n, hn, h, hK, σ, h0, h1, h2, h7 => by
    have hi := drop_none h
    rw [L_length] at hi
    refine Den.loopW (G := none) (σ2 := ?s1) (e := .exit 0) ⟨[(0, vS s), (1, vI i), (2, .fn f [] []), (7, vI n)], []⟩ ⟨[(7, vI n)], []⟩ (by simp) (by simp) ⟨⟨.inl h0.symm, .inl h1.symm, .inl h2.symm, .inl h7.symm, trivial⟩, trivial⟩ ?b1 ⟨⟨.inl ?w1, trivial⟩, trivial⟩ ?k1
    case b1 =>
      refine Den.iteF (by rw [wrapI (by omega) (by omega)]; simp; omega) ?_
      exact Den.leaf _
    case w1 => rfl
    case k1 => simpa using hK
  | c :: r, n, hn, h, hK, σ, h0, h1, h2, h7 => by
    obtain ⟨hb, hi⟩ := bt_drop h
    have hr : (L s).drop (i + (n + 1)) = r := (drop_some h).2.2
    by_cases hc : p c = true
    · refine Den.loopN (G := none) (σ2 := ?s2) ⟨[(0, vS s), (1, vI i), (2, .fn f [] []), (7, vI n)], []⟩ ⟨⟨.inl h0.symm, .inl h1.symm, .inl h2.symm, .inl h7.symm, trivial⟩, trivial⟩ ?b2 ?r2
      case b2 =>
        refine Den.iteT (by rw [wrapI (by omega) (by omega)]; simp; omega) ?_
        refine Den.asrt (by rw [wrapI (by omega) (by omega)]; omega) ?_
        refine Does.use (o := .ret (vB (p c)) []) ?_ ?_
        · rw [wrapI (by omega) (by omega), show ((i : Int) + (n : Int)) = ((i + n : Nat) : Int) by omega, hb]; exact hf c
        · refine Den.iteT hc ?_
          exact Den.leaf _
      case r2 =>
        refine run_loop s hs i f p hf K o r (n + 1) (by omega) hr ?_ _ rfl rfl rfl ?_
        · rw [List.takeWhile_cons, if_pos hc] at hK
          simp only [List.length_cons] at hK
          rwa [show n + 1 + (r.takeWhile p).length = n + ((r.takeWhile p).length + 1) by omega]
        · show vI (IntKind.i64.wrap ((n : Int) + 1)) = _
          rw [wrapI (by omega) (by omega)]; rfl
    · refine Den.loopW (G := none) (σ2 := ?s3) (e := .exit 0) ⟨[(0, vS s), (1, vI i), (2, .fn f [] []), (7, vI n)], []⟩ ⟨[(7, vI n)], []⟩ (by simp) (by simp) ⟨⟨.inl h0.symm, .inl h1.symm, .inl h2.symm, .inl h7.symm, trivial⟩, trivial⟩ ?b3 ⟨⟨.inl ?w3, trivial⟩, trivial⟩ ?k3
      case b3 =>
        refine Den.iteT (by rw [wrapI (by omega) (by omega)]; simp; omega) ?_
        refine Den.asrt (by rw [wrapI (by omega) (by omega)]; omega) ?_
        refine Does.use (o := .ret (vB (p c)) []) ?_ ?_
        · rw [wrapI (by omega) (by omega), show ((i : Int) + (n : Int)) = ((i + n : Nat) : Int) by omega, hb]; exact hf c
        · refine Den.iteF (by simpa using hc) ?_
          exact Den.leaf _
      case w3 => rfl
      case k3 =>
        rw [List.takeWhile_cons, if_neg hc] at hK
        simpa using hK
theorem run_fn (s : ByteArray) (hs : s.size ≤ 1048576) (i : Nat) (hi : i ≤ s.size) (f : FuncId) (p : UInt8 → Bool) (hf : ∀ c, Does X f [vC c] [] (.ret (vB (p c)) [])) : Does X 114 [vS s, vI i, .fn f [] []] [] (.ret (vI (((L s).drop i).takeWhile p).length) []) := by
  refine Does.of Tryz.func114 (by kernel_rfl) ?_
  refine run_loop s hs i f p hf _ _ ((L s).drop i) 0 (by omega) rfl ?_ _ rfl rfl rfl rfl
  rw [Nat.zero_add]
  exact Den.leaf _
theorem prefix_sl (l : List UInt8) (c : UInt8) (r : List UInt8) (h : l = c :: r) : decide ([47, 47] <+: l) = (isSl c && headSl r) := by
  subst h
  cases r with
  | nil => simp [headSl, List.cons_prefix_cons]
  | cons d r =>
    rw [Bool.eq_iff_iff]
    simp only [decide_eq_true_eq, List.cons_prefix_cons, List.nil_prefix, and_true, headSl, isSl, Bool.and_eq_true, ← UInt8.toNat_inj]
    exact ⟨fun h => ⟨h.1.symm, h.2.symm⟩, fun h => ⟨h.1.symm, h.2.symm⟩⟩
theorem gap_loop (hX : LibX X) (s : ByteArray) (hs : s.size ≤ 1048576) (K : Ex → St → T Out) (o : Out) : ∀ (n i : Nat), s.size - i ≤ n → i ≤ s.size →
    Den Tryz.prog tt X (K (.exit 0) ⟨[(1, vI ((i + gapL false ((L s).drop i) : Nat) : Int))], []⟩) o → Den Tryz.prog tt X (K .ret ⟨[(4, vI ((i + gapL false ((L s).drop i) : Nat) : Int))], []⟩) o →
    ∀ σ : St, getT σ.t 0 = vS s → getT σ.t 1 = vI i → Den Tryz.prog tt X (.loop (lp Tryz.f80 0) σ K) o := by
  intro n
  induction n with
  | zero =>
    intro i h0 h1 hE hR σ g0 g1
    refine Den.loopW (G := none) (σ2 := ?s4) (e := .exit 0) ⟨[(1, vI i), (0, vS s)], []⟩ ⟨[(1, vI i)], []⟩ (by simp) (by simp) ⟨⟨.inl g1.symm, .inl g0.symm, trivial⟩, trivial⟩ ?b4 ⟨⟨.inl ?w4, trivial⟩, trivial⟩ ?k4
    case b4 =>
      refine Den.iteF (by simp; omega) ?_
      exact Den.leaf _
    case w4 => rfl
    case k4 =>
      rw [List.drop_eq_nil_of_le (by rw [L_length]; omega)] at hE
      simpa [gapL] using hE
  | succ n ih =>
    intro i h0 h1 hE hR σ g0 g1
    cases h : (L s).drop i with
    | nil =>
      have h2 := drop_none h
      rw [L_length] at h2
      refine Den.loopW (G := none) (σ2 := ?s5) (e := .exit 0) ⟨[(1, vI i), (0, vS s)], []⟩ ⟨[(1, vI i)], []⟩ (by simp) (by simp) ⟨⟨.inl g1.symm, .inl g0.symm, trivial⟩, trivial⟩ ?b5 ⟨⟨.inl ?w5, trivial⟩, trivial⟩ ?k5
      case b5 =>
        refine Den.iteF (by simp; omega) ?_
        exact Den.leaf _
      case w5 => rfl
      case k5 =>
        rw [h] at hE
        simpa [gapL] using hE
    | cons c r =>
      obtain ⟨hb, hi⟩ := bt_drop h
      have e0 : ((i : Int)).toNat = i := by omega
      have hext : L (s.extract i s.size) = c :: r := by rw [L_extract, h, List.take_of_length_le]; rw [← h, List.length_drop, L_length]; omega
      by_cases hc : isSp c = true
      · refine Den.loopN (G := none) (σ2 := ?s6) ⟨[(1, vI i), (0, vS s)], []⟩ ⟨⟨.inl g1.symm, .inl g0.symm, trivial⟩, trivial⟩ ?b6 ?r6
        case b6 =>
          refine Den.iteT (by simp; omega) ?_
          refine Den.asrt (by omega) ?_
          refine Does.use (by rw [hb]; exact indexByte hX _ c) ?_
          refine Den.iteT (by simpa using (idx_sp_iff c).mpr hc) ?_
          exact Den.leaf _
        case r6 =>
          have e : i + gapL false ((L s).drop i) = i + 1 + gapL false ((L s).drop (i + 1)) := by
            rw [h, (drop_some h).2.2]; simp only [gapL, hc, if_true]; omega
          rw [e] at hE hR
          refine ih (i + 1) (by omega) (by omega) hE hR _ rfl ?_
          show vI (IntKind.i64.wrap ((i : Int) + 1)) = _
          rw [wrapI (by omega) (by omega)]; rfl
      · by_cases hd : (isSl c && headSl r) = true
        · have hle : (((L s).drop i).takeWhile (fun c => !isNl c)).length ≤ s.size - i := by
            have := List.takeWhile_sublist (p := fun c => !isNl c) (l := (L s).drop i) |>.length_le
            rw [List.length_drop, L_length] at this; exact this
          have hnl : isNl c = false := by simp only [Bool.and_eq_true] at hd; unfold isSl at hd; unfold isNl; simp at hd; simp [hd.1]
          have hpos : 1 ≤ (((L s).drop i).takeWhile (fun c => !isNl c)).length := by
            rw [h, List.takeWhile_cons, hnl]; simp
          refine Den.loopN (G := none) (σ2 := ?s7) ⟨[(1, vI i), (0, vS s)], []⟩ ⟨⟨.inl g1.symm, .inl g0.symm, trivial⟩, trivial⟩ ?b7 ?r7
          case b7 =>
            refine Den.iteT (by simp; omega) ?_
            refine Den.asrt (by omega) ?_
            refine Does.use (by rw [hb]; exact indexByte hX _ c) ?_
            refine Den.iteF (by simpa using fun x => hc ((idx_sp_iff c).mp x)) ?_
            refine Den.asrt (by simp only [Option.getD_none, Option.getD_some]; omega) ?_
            refine Does.use (hasPrefix _ _) ?_
            refine Den.iteT (by
              show decide ([47, 47] <+: L (s.extract ((i : Int)).toNat ((s.size : Int)).toNat)) = true
              rw [e0, show ((s.size : Int)).toNat = s.size by omega, prefix_sl _ c r hext]; exact hd) ?_
            refine Does.use (run_fn s hs i (by omega) _ _ nl_fn) ?_
            exact Den.leaf _
          case r7 =>
            have e : i + gapL false ((L s).drop i) = i + (((L s).drop i).takeWhile (fun c => !isNl c)).length + gapL false ((L s).drop (i + (((L s).drop i).takeWhile (fun c => !isNl c)).length)) := by
              have g1 : gapL false ((L s).drop i) = gapL true ((L s).drop i) := by
                rw [h]; simp only [gapL, hc, hd, hnl, if_true, if_false, Bool.false_eq_true]
              rw [g1, gapL_true_take, List.drop_drop]; omega
            rw [e] at hE hR
            refine ih _ (by omega) (by omega) hE hR _ rfl ?_
            show vI (IntKind.i64.wrap ((i : Int) + ((((L s).drop i).takeWhile (fun c => !isNl c)).length : Int))) = _
            rw [wrapI (by omega) (by omega)]; rfl
        · have e : gapL false ((L s).drop i) = 0 := by rw [h]; simp only [gapL, hc, hd, if_false, Bool.false_eq_true]
          rw [e] at hE hR
          refine Den.loopW (G := none) (σ2 := ?s8) (e := .ret) ⟨[(1, vI i), (0, vS s)], []⟩ ⟨[(4, vI i)], []⟩ (by simp) (by simp) ⟨⟨.inl g1.symm, .inl g0.symm, trivial⟩, trivial⟩ ?b8 ⟨⟨.inl ?w8, trivial⟩, trivial⟩ ?k8
          case b8 =>
            refine Den.iteT (by simp; omega) ?_
            refine Den.asrt (by omega) ?_
            refine Does.use (by rw [hb]; exact indexByte hX _ c) ?_
            refine Den.iteF (by simpa using fun x => hc ((idx_sp_iff c).mp x)) ?_
            refine Den.asrt (by simp only [Option.getD_none, Option.getD_some]; omega) ?_
            refine Does.use (hasPrefix _ _) ?_
            refine Den.iteF (by
              show decide ([47, 47] <+: L (s.extract ((i : Int)).toNat ((s.size : Int)).toNat)) = false
              rw [e0, show ((s.size : Int)).toNat = s.size by omega, prefix_sl _ c r hext]; simpa using hd) ?_
            exact Den.leaf _
          case w8 => rfl
          case k8 => simpa using hR
theorem gap_fn (hX : LibX X) (s : ByteArray) (hs : s.size ≤ 1048576) (i : Nat) (hi : i ≤ s.size) : Does X 80 [vS s, vI i] [] (.ret (vI ((i + gapL false ((L s).drop i) : Nat) : Int)) []) := by
  refine Does.of Tryz.func80 (by kernel_rfl) ?_
  exact gap_loop hX s hs _ _ s.size i (by omega) hi (Den.leaf _) (Den.leaf _) _ rfl rfl
end Go.Proofs.YtacfbgfphkfobaaGreatDoor.Id
/-! ## DenByte -/
namespace Go.Proofs.YtacfbgfphkfobaaGreatDoor.Id
open Go
set_option linter.unusedVariables false
set_option linter.unusedSimpArgs false
variable {X : Given}
def isLetter (c : Int) : Bool := decide (c = 95) || (decide (97 ≤ c) && decide (c ≤ 122)) || (decide (65 ≤ c) && decide (c ≤ 90))
def isDigit (c : Int) : Bool := decide (48 ≤ c) && decide (c ≤ 57)
def isL (c : UInt8) : Bool := isLetter (c.toNat : Int)
def isD (c : UInt8) : Bool := isDigit (c.toNat : Int)
def isW (c : UInt8) : Bool := isL c || isD c
def nib (c : UInt8) : Option Nat := if 48 ≤ c.toNat ∧ c.toNat ≤ 57 then some (c.toNat - 48) else if 97 ≤ c.toNat ∧ c.toNat ≤ 102 then some (c.toNat - 87) else none
theorem wrapC {x : Int} (h0 : 0 ≤ x) (h : x ≤ 255) : IntKind.wrap .u8 x = x := by
  rw [IntKind.wrap_u8]; omega
theorem ldigit (c : UInt8) : Does X 118 [vC c] [] (.ret (vB (isD c)) []) := by
  refine Does.of Tryz.func118 (by kernel_rfl) ?_
  unfold isD isDigit
  repeat' first | refine Den.leaf' ?_ | refine Den.ite (fun _ => ?_) (fun _ => ?_)
  all_goals first | (simp_all; done) | (simp_all; omega)
theorem rdigit (c : UInt8) : Does X 72 [vC c] [] (.ret (vB (isD c)) []) := by
  refine Does.of Tryz.func72 (by kernel_rfl) ?_
  unfold isD isDigit
  repeat' first | refine Den.leaf' ?_ | refine Den.ite (fun _ => ?_) (fun _ => ?_)
  all_goals first | (simp_all; done) | (simp_all; omega)
theorem lletter (c : UInt8) : Does X 116 [vC c] [] (.ret (vB (isL c)) []) := by
  refine Does.of Tryz.func116 (by kernel_rfl) ?_
  unfold isL isLetter
  repeat' first | refine Den.leaf' ?_ | refine Den.ite (fun _ => ?_) (fun _ => ?_)
  all_goals first | (simp_all; done) | (simp_all; omega)
theorem rletter (c : UInt8) : Does X 71 [vC c] [] (.ret (vB (isL c)) []) := by
  refine Does.of Tryz.func71 (by kernel_rfl) ?_
  unfold isL isLetter
  repeat' first | refine Den.leaf' ?_ | refine Den.ite (fun _ => ?_) (fun _ => ?_)
  all_goals first | (simp_all; done) | (simp_all; omega)
theorem lboth (c : UInt8) : Does X 117 [vC c] [] (.ret (vB (isW c)) []) := by
  refine Does.of Tryz.func117 (by kernel_rfl) ?_
  refine Does.use (lletter c) ?_
  unfold isW
  refine Den.ite (fun h => ?_) (fun h => ?_)
  · refine Den.leaf' ?_
    simp [h]
  · refine Does.use (ldigit c) ?_
    refine Den.leaf' ?_
    simp [h]
theorem isD_iff (c : UInt8) : isD c = true ↔ 48 ≤ c.toNat ∧ c.toNat ≤ 57 := by
  unfold isD isDigit
  simp only [Bool.and_eq_true, decide_eq_true_eq]; omega
theorem lnib (c : UInt8) : Does X 138 [vC c] [] (.ret (vI (match nib c with | some x => (x : Int) | none => -1)) []) := by
  refine Does.of Tryz.func138 (by kernel_rfl) ?_
  refine Does.use (ldigit c) ?_
  have hd := isD_iff c
  have hlt := c.toNat_lt
  by_cases h : isD c = true
  · refine Den.iteT h ?_
    refine Den.leaf' ?_
    have h1 := hd.1 h
    have e : nib c = some (c.toNat - 48) := by unfold nib; rw [if_pos h1]
    rw [e, wrapC (x := (c.toNat : Int) - 48) (by omega) (by omega), wrapI (by omega) (by omega)]
    congr 3; simp only; omega
  · refine Den.iteF (by simpa using h) ?_
    have h1 : ¬ (48 ≤ c.toNat ∧ c.toNat ≤ 57) := fun x => h (hd.2 x)
    by_cases h2 : 97 ≤ c.toNat
    · refine Den.iteT (by simp; omega) ?_
      by_cases h3 : c.toNat ≤ 102
      · refine Den.iteT (by simp; omega) ?_
        refine Den.leaf' ?_
        have e : nib c = some (c.toNat - 87) := by unfold nib; rw [if_neg h1, if_pos ⟨h2, h3⟩]
        rw [e, wrapC (x := (c.toNat : Int) - 97) (by omega) (by omega), wrapI (x := (c.toNat : Int) - 97) (by omega) (by omega), wrapI (by omega) (by omega)]
        congr 3; simp only; omega
      · refine Den.iteF (by simp; omega) ?_
        refine Den.leaf' ?_
        have e : nib c = none := by unfold nib; rw [if_neg h1, if_neg (fun x => h3 x.2)]
        rw [e]
    · refine Den.iteF (by simp; omega) ?_
      refine Den.leaf' ?_
      have e : nib c = none := by unfold nib; rw [if_neg h1, if_neg (fun x => h2 x.1)]
      rw [e]
theorem rhalf (c : UInt8) : Does X 131 [vC c] [] (.ret (.d (.int .u8 (match nib c with | some x => (x : Int) | none => 16))) []) := by
  refine Does.of Tryz.func131 (by kernel_rfl) ?_
  refine Does.use (rdigit c) ?_
  have hd := isD_iff c
  have hlt := c.toNat_lt
  by_cases h : isD c = true
  · refine Den.iteT h ?_
    refine Den.leaf' ?_
    have h1 := hd.1 h
    have e : nib c = some (c.toNat - 48) := by unfold nib; rw [if_pos h1]
    rw [e, wrapC (x := (c.toNat : Int) - 48) (by omega) (by omega)]
    congr 3; simp only; omega
  · refine Den.iteF (by simpa using h) ?_
    have h1 : ¬ (48 ≤ c.toNat ∧ c.toNat ≤ 57) := fun x => h (hd.2 x)
    by_cases h2 : 97 ≤ c.toNat
    · refine Den.iteT (by simp; omega) ?_
      by_cases h3 : c.toNat ≤ 102
      · refine Den.iteT (by simp; omega) ?_
        refine Den.leaf' ?_
        have e : nib c = some (c.toNat - 87) := by unfold nib; rw [if_neg h1, if_pos ⟨h2, h3⟩]
        rw [e, wrapC (x := (c.toNat : Int) - 97) (by omega) (by omega), wrapC (by omega) (by omega)]
        congr 3; simp only; omega
      · refine Den.iteF (by simp; omega) ?_
        refine Den.leaf' ?_
        have e : nib c = none := by unfold nib; rw [if_neg h1, if_neg (fun x => h3 x.2)]
        rw [e]
    · refine Den.iteF (by simp; omega) ?_
      refine Den.leaf' ?_
      have e : nib c = none := by unfold nib; rw [if_neg h1, if_neg (fun x => h2 x.1)]
      rw [e]
end Go.Proofs.YtacfbgfphkfobaaGreatDoor.Id
/-! ## DenQuo -/
namespace Go.Proofs.YtacfbgfphkfobaaGreatDoor.Id
open Go
set_option linter.unusedVariables false
set_option linter.unusedSimpArgs false
variable {X : Given}
theorem byte_all {p : UInt8 → Bool} (h : (List.range 256).all (fun n => p (UInt8.ofNat n)) = true) (c : UInt8) : p c = true := by
  have := (List.all_eq_true.mp h) c.toNat (List.mem_range.mpr c.toNat_lt)
  simpa using this
theorem nib_lt {c : UInt8} {x : Nat} (h : nib c = some x) : x < 16 := by
  unfold nib at h
  split at h
  · injection h; omega
  · split at h
    · injection h; omega
    · cases h
def pc : List UInt8 → Option (UInt8 × Nat)
  | [] => none
  | c :: r =>
    if c.toNat = 92 then
      match r with
      | [] => none
      | d :: r' =>
        if d.toNat = 110 then some (10, 2) else if d.toNat = 116 then some (9, 2) else if d.toNat = 34 ∨ d.toNat = 92 then some (d, 2)
        else if d.toNat = 120 then
          match r' with
          | a :: b :: _ => (match nib a, nib b with
            | some x, some y => some (UInt8.ofNat (16 * x + y), 4)
            | _, _ => none)
          | _ => none
        else none
    else if c.toNat < 32 ∨ 126 < c.toNat ∨ c.toNat = 34 then none else some (c, 1)
def pcI (l : List UInt8) : Int × Int := match pc l with
  | none => (0, 0)
  | some (b, n) => ((b.toNat : Int), (n : Int))
def nibI (c : UInt8) : Int := match nib c with | some x => (x : Int) | none => -1
theorem bits_l : ∀ a b : Fin 16, IntKind.u8.wrap (IntKind.i64.wrap ((BitVec.ofInt IntKind.i64.bits (IntKind.i64.wrap ((a.val : Int) * 2 ^ min (Int.toNat 4) IntKind.i64.bits)) ||| BitVec.ofInt IntKind.i64.bits (b.val : Int)).toNat : Int)) = ((UInt8.ofNat (16 * a.val + b.val)).toNat : Int) := by decide +kernel
theorem bits_r : ∀ a b : Fin 16, IntKind.u8.wrap ((BitVec.ofInt IntKind.u8.bits (IntKind.u8.wrap ((a.val : Int) * 2 ^ min (Int.toNat 4) IntKind.u8.bits)) ||| BitVec.ofInt IntKind.u8.bits (b.val : Int)).toNat : Int) = ((UInt8.ofNat (16 * a.val + b.val)).toNat : Int) := by decide +kernel
/-- what a piece comes to -/
def pcV (l : List UInt8) : Out := .ret (.tuple [.d (.int .u8 (pcI l).1), vI (pcI l).2]) []
theorem pcV_none {l : List UInt8} (h : pc l = none) : pcV l = .ret (.tuple [.d (.int .u8 0), vI 0]) [] := by unfold pcV pcI; rw [h]
theorem pcV_some {l : List UInt8} {b : UInt8} {n : Nat} (h : pc l = some (b, n)) : pcV l = .ret (.tuple [.d (.int .u8 b.toNat), vI n]) [] := by unfold pcV pcI; rw [h]
set_option maxHeartbeats 4000000 in
theorem lpiece (s : ByteArray) (hs : s.size ≤ 1048576) : Does X 124 [vS s] [] (pcV (L s)) := by
  refine Does.of Tryz.func124 (by kernel_rfl) ?_
  cases h : L s with
  | nil =>
    have hz : s = ⟨#[]⟩ := L_inj h
    refine Den.iteT (by simpa using hz) ?_
    exact Den.leaf' (pcV_none rfl).symm
  | cons c r =>
    obtain ⟨hb0, hi0⟩ := bt_drop (i := 0) (s := s) (c := c) (r := r) (by simpa using h)
    have hsz : s.size = r.length + 1 := by rw [size_eq_L, h]; rfl
    have hb0 : bt s 0 = (c.toNat : Int) := hb0
    have hne : ¬ s = ⟨#[]⟩ := fun e => by rw [e] at h; cases h
    refine Den.iteF (by simpa using hne) ?_
    refine Den.asrt (by omega) ?_
    by_cases h1 : c.toNat < 32
    · refine Den.iteT (by rw [hb0]; simp; omega) ?_
      refine Den.leaf' (pcV_none ?_).symm
      simp only [pc]; rw [if_neg (by omega), if_pos (Or.inl h1)]
    refine Den.iteF (by rw [hb0]; simp; omega) ?_
    refine Den.asrt (by omega) ?_
    by_cases h2 : 126 < c.toNat
    · refine Den.iteT (by rw [hb0]; simp; omega) ?_
      refine Den.leaf' (pcV_none ?_).symm
      simp only [pc]; rw [if_neg (by omega), if_pos (Or.inr (Or.inl h2))]
    refine Den.iteF (by rw [hb0]; simp; omega) ?_
    refine Den.asrt (by omega) ?_
    by_cases h3 : c.toNat = 34
    · refine Den.iteT (by rw [hb0]; simp; omega) ?_
      refine Den.leaf' (pcV_none ?_).symm
      simp only [pc]; rw [if_neg (by omega), if_pos (Or.inr (Or.inr h3))]
    refine Den.iteF (by rw [hb0]; simp; omega) ?_
    refine Den.asrt (by omega) ?_
    by_cases h4 : c.toNat = 92
    rotate_left
    · refine Den.iteT (by rw [hb0]; simp; omega) ?_
      refine Den.asrt (by omega) ?_
      rw [pcV_some (b := c) (n := 1) (by simp only [pc]; rw [if_neg h4, if_neg (by omega)])]
      exact Den.leaf' (by rw [hb0]; rfl)
    refine Den.iteF (by rw [hb0]; simp; omega) ?_
    cases r with
    | nil =>
      refine Den.iteT (by simp; simp at hsz; omega) ?_
      exact Den.leaf' (pcV_none (by simp [pc, h4])).symm
    | cons d r =>
      obtain ⟨hb1, hi1⟩ := bt_drop (i := 1) (s := s) (c := d) (r := r) (by simp [h])
      have hb1 : bt s 1 = (d.toNat : Int) := hb1
      simp only [List.length_cons] at hsz
      refine Den.iteF (by simp; omega) ?_
      refine Den.asrt (by omega) ?_
      by_cases d1 : d.toNat = 110
      · refine Den.iteT (by rw [hb1]; simp; omega) ?_
        rw [pcV_some (b := 10) (n := 2) (by simp [pc, h4, d1])]
        exact Den.leaf _
      refine Den.iteF (by rw [hb1]; simp; omega) ?_
      by_cases d2 : d.toNat = 116
      · refine Den.iteT (by rw [hb1]; simp; omega) ?_
        rw [pcV_some (b := 9) (n := 2) (by simp [pc, h4, d2])]
        exact Den.leaf _
      refine Den.iteF (by rw [hb1]; simp; omega) ?_
      by_cases d3 : d.toNat = 34
      · refine Den.iteT (by rw [hb1]; simp; omega) ?_
        refine Den.iteT (by rw [hb1]; simp; omega) ?_
        refine Den.asrt (by omega) ?_
        rw [pcV_some (b := d) (n := 2) (by simp [pc, h4, d3])]
        exact Den.leaf' (by rw [hb1]; rfl)
      refine Den.iteF (by rw [hb1]; simp; omega) ?_
      by_cases d4 : d.toNat = 92
      · refine Den.iteT (by rw [hb1]; simp; omega) ?_
        refine Den.asrt (by omega) ?_
        rw [pcV_some (b := d) (n := 2) (by simp [pc, h4, d4])]
        exact Den.leaf' (by rw [hb1]; rfl)
      refine Den.iteF (by rw [hb1]; simp; omega) ?_
      by_cases d5 : d.toNat = 120
      rotate_left
      · refine Den.iteF (by rw [hb1]; simp; omega) ?_
        exact Den.leaf' (pcV_none (by simp [pc, h4, d1, d2, d3, d4, d5])).symm
      refine Den.iteT (by rw [hb1]; simp; omega) ?_
      match r, h, hsz with
      | [], h, hsz =>
        refine Den.iteF (by simp at hsz; simp; omega) ?_
        exact Den.leaf' (pcV_none (by simp [pc, h4, d5])).symm
      | [x1], h, hsz =>
        refine Den.iteF (by simp at hsz; simp; omega) ?_
        exact Den.leaf' (pcV_none (by simp [pc, h4, d5])).symm
      | a :: b :: r, h, hsz =>
        obtain ⟨hb2, hi2⟩ := bt_drop (i := 2) (s := s) (c := a) (r := b :: r) (by simp [h])
        obtain ⟨hb3, hi3⟩ := bt_drop (i := 3) (s := s) (c := b) (r := r) (by simp [h])
        have hb2 : bt s 2 = (a.toNat : Int) := hb2
        have hb3 : bt s 3 = (b.toNat : Int) := hb3
        refine Den.iteT (by simp; omega) ?_
        refine Den.asrt (by omega) ?_
        refine Does.use (by rw [hb2]; exact lnib a) ?_
        cases hx : nib a with
        | none =>
          refine Den.iteF (by simp) ?_
          exact Den.leaf' (pcV_none (by simp [pc, h4, d5, hx])).symm
        | some x =>
          refine Den.iteT (by simp) ?_
          refine Den.asrt (by omega) ?_
          refine Does.use (by rw [hb3]; exact lnib b) ?_
          cases hy : nib b with
          | none =>
            refine Den.iteF (by simp) ?_
            exact Den.leaf' (pcV_none (by simp [pc, h4, d5, hx, hy])).symm
          | some y =>
            refine Den.iteT (by simp) ?_
            have ha := lnib (X := X) a
            rw [hx] at ha
            have hb := lnib (X := X) b
            rw [hy] at hb
            refine Den.asrt (by kernel_rfl) ?_
            refine Den.asrt (by omega) ?_
            refine Does.use (by rw [hb2]; exact ha) ?_
            refine Den.asrt (by simp) ?_
            refine Den.asrt (by omega) ?_
            refine Does.use (by rw [hb3]; exact hb) ?_
            refine Den.asrt (by kernel_rfl) ?_
            refine Den.leaf' ?_
            rw [pcV_some (b := UInt8.ofNat (16 * x + y)) (n := 4) (by simp [pc, h4, d5, hx, hy])]
            exact congrArg (fun z => Out.ret (V.tuple [V.d (D.int IntKind.u8 z), vI 4]) []) (bits_l ⟨x, nib_lt hx⟩ ⟨y, nib_lt hy⟩)
/-! ### between the quotes -/
/-- what stands ahead of the closing quote, and how many bytes up to behind it -/
def ql : Nat → List UInt8 → Option (List UInt8 × Nat)
  | 0, _ => none
  | f + 1, [] => none
  | f + 1, c :: r => if c.toNat = 34 then some ([], 1) else
      match pc (c :: r) with
      | none => none
      | some (b, n) => match ql f ((c :: r).drop n) with
        | none => none
        | some (t, m) => some (b :: t, n + m)
theorem pc_pos {l : List UInt8} {b : UInt8} {n : Nat} (h : pc l = some (b, n)) : 1 ≤ n ∧ n ≤ l.length := by
  unfold pc at h
  split at h
  · cases h
  · split at h
    · split at h
      · cases h
      · split at h
        · injection h with h; injection h with h1 h2; simp; omega
        · split at h
          · injection h with h; injection h with h1 h2; simp; omega
          · split at h
            · injection h with h; injection h with h1 h2; simp; omega
            · split at h
              · split at h
                · split at h
                  · injection h with h; injection h with h1 h2; simp; omega
                  · cases h
                · cases h
              · cases h
    · split at h
      · cases h
      · injection h with h; injection h with h1 h2; simp; omega
theorem ql_fuel : ∀ (f g : Nat) (l : List UInt8), l.length < f → l.length < g → ql f l = ql g l
  | 0, _, l, h, _ => by omega
  | f + 1, 0, l, _, h => by omega
  | f + 1, g + 1, [], _, _ => rfl
  | f + 1, g + 1, c :: r, h1, h2 => by
    unfold ql
    split
    · rfl
    · cases hp : pc (c :: r) with
      | none => rfl
      | some q =>
        obtain ⟨b, n⟩ := q
        obtain ⟨p1, p2⟩ := pc_pos hp
        simp only
        rw [ql_fuel f g _ (by rw [List.length_drop]; simp only [List.length_cons] at *; omega) (by rw [List.length_drop]; simp only [List.length_cons] at *; omega)]
def qI (e : Int) (A : List UInt8) (i : Nat) : Option (List UInt8 × Nat) → ByteArray × Int
  | none => (⟨#[]⟩, e)
  | some (t, m) => if A.length + t.length ≤ 4096 then (mkB (A ++ t), ((i + m : Nat) : Int)) else (⟨#[]⟩, e)
theorem quo_arith {z i n f q : Nat} (h1 : z - i = q) (h2 : n ≤ q) (h3 : 1 ≤ n) (h4 : z - i < f + 1) (h5 : i ≤ z) : z - (i + n) < f ∧ i + n ≤ z := by omega
theorem len_snoc {A : List UInt8} {b : UInt8} {m : Nat} (h1 : A.length < m) : (A ++ [b]).length ≤ m := by rw [List.length_append]; exact h1
theorem drop_len {s : ByteArray} {i f : Nat} (h : s.size - i < f) : ((L s).drop i).length < f := by rw [List.length_drop, L_length]; exact h
/-- behind an opening quote: the text and the bytes it takes, the quotes too -/
def quo (r : List UInt8) : Option (List UInt8 × Nat) := match ql (r.length + 1) r with
  | none => none
  | some (t, m) => if t.length ≤ 4096 then some (t, m + 1) else none
end Go.Proofs.YtacfbgfphkfobaaGreatDoor.Id
/-! ## DenQuoL -/
namespace Go.Proofs.YtacfbgfphkfobaaGreatDoor.Id
open Go
set_option linter.unusedVariables false
set_option linter.unusedSimpArgs false
variable {X : Given}
set_option maxHeartbeats 4000000 in
theorem lquo_loop (s : ByteArray) (hs : s.size ≤ 1048576) (K : Ex → St → T Out) (O : ByteArray × Int → Out)
    (hE : ∀ (j : Nat) (A' : List UInt8), j ≤ s.size → Den Tryz.prog tt X (K (.exit 0) ⟨[(5, vI j), (4, .own (42, here) 1 (A'.map byteD)), (0, vS s)], []⟩) (O (if s.size ≤ j then (⟨#[]⟩, 0) else (mkB A', ((j + 1 : Nat) : Int)))))
    (hR : Den Tryz.prog tt X (K .ret ⟨[(2, vS ⟨#[]⟩), (3, vI 0)], []⟩) (O (⟨#[]⟩, 0))) :
    ∀ (f : Nat) (A : List UInt8) (i : Nat), A.length ≤ 4096 → ((L s).drop i).length < f → i ≤ s.size → ∀ σ : St, getT σ.t 0 = vS s → getT σ.t 5 = vI i → WkV σ (.own (42, here) 1 (A.map byteD)) (getT σ.t 4) →
      Den Tryz.prog tt X (.loop (lp Tryz.f88 0) σ K) (O (qI 0 A i (ql f ((L s).drop i))))
  | 0, A, i, hA, hl, hi, σ, g0, g5, g4 => by omega
  | f + 1, A, i, hA, hl, hi, σ, g0, g5, g4 => by
    have hz : s.size - i < f + 1 := by rw [List.length_drop, L_length] at hl; exact hl
    clear hl
    have wk0 : Wk ⟨[(0, vS s), (5, vI i), (4, .own (42, here) 1 (A.map byteD))], []⟩ σ := ⟨⟨.inl g0.symm, .inl g5.symm, g4, trivial⟩, trivial⟩
    cases h : (L s).drop i with
    | nil =>
      have h1 := drop_none h; rw [L_length] at h1
      refine Den.loopW (G := none) (σ2 := ?s1) (e := .exit 0) _ ⟨[(5, vI i), (4, .own (42, here) 1 (A.map byteD)), (0, vS s)], []⟩ (by simp) (by simp) wk0 ?b1 ?w1 ?k1
      case b1 =>
        refine Den.iteF (by simp; omega) ?_
        exact Den.leaf _
      case w1 => exact ⟨⟨.inl rfl, .inl rfl, .inl rfl, trivial⟩, trivial⟩
      case k1 =>
        have := hE i A hi
        rw [if_pos h1] at this
        simpa [ql, qI] using this
    | cons c r =>
      obtain ⟨hb, hi'⟩ := bt_drop h
      by_cases hq : c.toNat = 34
      · refine Den.loopW (G := none) (σ2 := ?s2) (e := .exit 0) _ ⟨[(5, vI i), (4, .own (42, here) 1 (A.map byteD)), (0, vS s)], []⟩ (by simp) (by simp) wk0 ?b2 ?w2 ?k2
        case b2 =>
          refine Den.iteT (by simp; omega) ?_
          refine Den.asrt (by omega) ?_
          refine Den.iteF (by rw [hb]; simp; omega) ?_
          exact Den.leaf _
        case w2 => exact ⟨⟨.inl rfl, .inl rfl, .inl rfl, trivial⟩, trivial⟩
        case k2 =>
          have := hE i A hi
          rw [if_neg (by omega)] at this
          simp only [ql, hq, if_true, qI, List.append_nil, List.length_nil]
          rw [if_pos (by omega)]
          exact this
      · have e0 : ((i : Int)).toNat = i := by omega
        have e1 : L (s.extract i s.size) = c :: r := by rw [L_extract, h, List.take_of_length_le]; rw [← h, List.length_drop, L_length]; omega
        have hpc : Does X 124 [vS (s.extract ((i : Int)).toNat ((s.size : Int)).toNat)] [] (pcV (c :: r)) := by
          have := lpiece (X := X) (s.extract i s.size) (by simp; omega)
          rw [e1] at this
          rw [e0, show ((s.size : Int)).toNat = s.size by omega]
          exact this
        cases hp : pc (c :: r) with
        | none =>
          rw [pcV_none hp] at hpc
          refine Den.loopW (G := none) (σ2 := ?s3) (e := .ret) _ ⟨[(2, vS ⟨#[]⟩), (3, vI 0)], []⟩ (by simp) (by simp) wk0 ?b3 ?w3 ?k3
          case b3 =>
            refine Den.iteT (by simp; omega) ?_
            refine Den.asrt (by omega) ?_
            refine Den.iteT (by rw [hb]; simp; omega) ?_
            refine Den.asrt (by simp only [Option.getD_none, Option.getD_some]; omega) ?_
            refine Does.use hpc ?_
            refine Den.iteT (by simp) ?_
            exact Den.leaf _
          case w3 => exact ⟨⟨.inl rfl, .inl rfl, trivial⟩, trivial⟩
          case k3 =>
            unfold ql; rw [if_neg hq]; simp only [hp, qI]
            exact hR
        | some q =>
          obtain ⟨b, n⟩ := q
          rw [pcV_some hp] at hpc
          obtain ⟨p1, p2⟩ := pc_pos hp
          have hlen := congrArg List.length h
          rw [List.length_drop, L_length] at hlen
          obtain ⟨q2, q3⟩ := quo_arith hlen p2 p1 hz hi
          have ed : (c :: r).drop n = (L s).drop (i + n) := by rw [← h, List.drop_drop]
          by_cases hA2 : A.length = 4096
          · refine Den.loopW (G := none) (σ2 := ?s4) (e := .ret) _ ⟨[(2, vS ⟨#[]⟩), (3, vI 0)], []⟩ (by simp) (by simp) wk0 ?b4 ?w4 ?k4
            case b4 =>
              refine Den.iteT (by simp; omega) ?_
              refine Den.asrt (by omega) ?_
              refine Den.iteT (by rw [hb]; simp; omega) ?_
              refine Den.asrt (by simp only [Option.getD_none, Option.getD_some]; omega) ?_
              refine Does.use hpc ?_
              refine Den.iteF (by simp; omega) ?_
              refine Den.iteT (by simp; omega) ?_
              exact Den.leaf _
            case w4 => exact ⟨⟨.inl rfl, .inl rfl, trivial⟩, trivial⟩
            case k4 =>
              unfold ql; rw [if_neg hq]; simp only [hp, ed]
              cases ql f ((L s).drop (i + n)) with
              | none => exact hR
              | some z => obtain ⟨t, m⟩ := z; simp only [qI, List.length_cons]; rw [if_neg (by omega)]; exact hR
          · refine Den.loopN (G := none) (σ2 := ?s5) _ wk0 ?b5 ?r5
            case b5 =>
              refine Den.iteT (by simp; omega) ?_
              refine Den.asrt (by omega) ?_
              refine Den.iteT (by rw [hb]; simp; omega) ?_
              refine Den.asrt (by simp only [Option.getD_none, Option.getD_some]; omega) ?_
              refine Does.use hpc ?_
              refine Den.iteF (by simp; omega) ?_
              refine Den.iteF (by simp; omega) ?_
              refine Den.asrt (by show ((A.map byteD).length + 1) * 1 ≤ 140737488355328; rw [List.length_map]; omega) ?_
              exact Den.leaf _
            case r5 =>
              have e : qI 0 A i (ql (f + 1) (c :: r)) = qI 0 (A ++ [b]) (i + n) (ql f ((L s).drop (i + n))) := by
                conv => lhs; unfold ql
                rw [if_neg hq]
                simp only [hp, ed]
                cases ql f ((L s).drop (i + n)) with
                | none => rfl
                | some z =>
                  obtain ⟨t, m⟩ := z
                  simp only [qI, List.length_append, List.length_cons, List.length_nil, List.append_assoc, List.singleton_append]
                  by_cases hh : A.length + (t.length + 1) ≤ 4096
                  · rw [if_pos hh, if_pos (by omega), Nat.add_assoc]
                  · rw [if_neg hh, if_neg (by omega)]
              rw [e]
              refine lquo_loop s hs K O hE hR f (A ++ [b]) (i + n) (len_snoc (by omega)) (drop_len q2) q3 _ rfl ?_ (.inl ?_)
              · show vI (IntKind.i64.wrap ((i : Int) + (n : Int))) = _
                rw [wrapI (by omega) (by omega)]; rfl
              · rw [List.map_append]; rfl
theorem lquoted (s : ByteArray) (hs : s.size ≤ 1048576) : Does X 88 [vS s] [] ((fun x : ByteArray × Int => Out.ret (.tuple [vS x.1, vI x.2]) []) (match L s with
    | [] => (⟨#[]⟩, 0)
    | c :: r => if c.toNat = 34 then (match quo r with | none => (⟨#[]⟩, 0) | some (t, n) => (mkB t, (n : Int))) else (⟨#[]⟩, 0))) := by
  refine Does.of Tryz.func88 (by kernel_rfl) ?_
  cases h : L s with
  | nil =>
    have hz : s = ⟨#[]⟩ := L_inj h
    refine Den.iteT (by simpa using hz) ?_
    exact Den.leaf _
  | cons c r =>
    obtain ⟨hb0, hi0⟩ := bt_drop (i := 0) (s := s) (c := c) (r := r) (by simpa using h)
    have hb0 : bt s 0 = (c.toNat : Int) := hb0
    have hr : (L s).drop 1 = r := by rw [h]; rfl
    have hne : ¬ s = ⟨#[]⟩ := fun e => by rw [e] at h; cases h
    refine Den.iteF (by simpa using hne) ?_
    refine Den.asrt (by omega) ?_
    by_cases hq : c.toNat = 34
    · refine Den.iteF (by rw [hb0]; simp; omega) ?_
      have e : (match c :: r with
          | [] => (⟨#[]⟩, 0)
          | c :: r => if c.toNat = 34 then (match quo r with | none => (⟨#[]⟩, 0) | some (t, n) => (mkB t, (n : Int))) else (⟨#[]⟩, 0)) = qI 0 [] 1 (ql (r.length + 1) ((L s).drop 1)) := by
        rw [hr]
        simp only [if_pos hq]
        unfold quo
        cases ql (r.length + 1) r with
        | none => rfl
        | some z =>
          obtain ⟨t, m⟩ := z
          simp only [qI, List.length_nil, List.nil_append, Nat.zero_add]
          by_cases ht : t.length ≤ 4096
          · simp only [if_pos ht]; rw [Nat.add_comm]
          · simp only [if_neg ht]
      rw [e]
      refine lquo_loop s hs _ (fun x : ByteArray × Int => Out.ret (.tuple [vS x.1, vI x.2]) []) ?_ ?_ (r.length + 1) [] 1 (by simp) (by rw [hr]; omega) (by omega) _ rfl rfl (.inr (.inr ⟨(42, here), 1, 1, rfl, rfl, rfl, rfl⟩))
      · intro j A' hj
        by_cases hj2 : s.size ≤ j
        · rw [if_pos hj2]
          refine Den.iteT (by simp; omega) ?_
          exact Den.leaf _
        · rw [if_neg hj2]
          refine Den.iteF (by simp; omega) ?_
          refine Den.bytes A' rfl ?_
          refine Den.leaf' ?_
          rw [wrapI (by omega) (by omega)]
          rfl
      · exact Den.leaf _
    · refine Den.iteT (by rw [hb0]; simp; omega) ?_
      refine Den.leaf' ?_
      simp [hq]
end Go.Proofs.YtacfbgfphkfobaaGreatDoor.Id
/-! ## DenQuoR -/
namespace Go.Proofs.YtacfbgfphkfobaaGreatDoor.Id
open Go
set_option linter.unusedVariables false
set_option linter.unusedSimpArgs false
variable {X : Given}
set_option maxHeartbeats 4000000 in
theorem rpiece (s : ByteArray) (hs : s.size ≤ 1048576) (i : Nat) (hi : i ≤ s.size) : Does X 109 [vS s, vI i] [] (pcV ((L s).drop i)) := by
  refine Does.of Tryz.func109 (by kernel_rfl) ?_
  cases h : (L s).drop i with
  | nil =>
    have h1 := drop_none h; rw [L_length] at h1
    refine Den.iteT (by simp; omega) ?_
    exact Den.leaf' (pcV_none rfl).symm
  | cons c r =>
    obtain ⟨hb0, hi0⟩ := bt_drop h
    have hlen := congrArg List.length h
    rw [List.length_drop, L_length] at hlen
    simp only [List.length_cons] at hlen
    refine Den.iteF (by simp; omega) ?_
    refine Den.asrt (by omega) ?_
    by_cases h4 : c.toNat = 92
    rotate_left
    · refine Den.iteT (by rw [hb0]; simp; omega) ?_
      by_cases h1 : c.toNat < 32
      · refine Den.iteT (by rw [hb0]; simp; omega) ?_
        refine Den.leaf' (pcV_none ?_).symm
        simp only [pc]; rw [if_neg (by omega), if_pos (Or.inl h1)]
      refine Den.iteF (by rw [hb0]; simp; omega) ?_
      by_cases h2 : 126 < c.toNat
      · refine Den.iteT (by rw [hb0]; simp; omega) ?_
        refine Den.leaf' (pcV_none ?_).symm
        simp only [pc]; rw [if_neg (by omega), if_pos (Or.inr (Or.inl h2))]
      refine Den.iteF (by rw [hb0]; simp; omega) ?_
      by_cases h3 : c.toNat = 34
      · refine Den.iteT (by rw [hb0]; simp; omega) ?_
        refine Den.leaf' (pcV_none ?_).symm
        simp only [pc]; rw [if_neg (by omega), if_pos (Or.inr (Or.inr h3))]
      refine Den.iteF (by rw [hb0]; simp; omega) ?_
      rw [pcV_some (b := c) (n := 1) (by simp only [pc]; rw [if_neg h4, if_neg (by omega)])]
      exact Den.leaf' (by rw [hb0]; rfl)
    refine Den.iteF (by rw [hb0]; simp; omega) ?_
    have w1 : IntKind.i64.wrap ((i : Int) + 1) = ((i + 1 : Nat) : Int) := by rw [wrapI (by omega) (by omega)]; rfl
    cases r with
    | nil =>
      refine Den.iteT (by rw [w1]; simp at hlen; simp; omega) ?_
      exact Den.leaf' (pcV_none (by simp [pc, h4])).symm
    | cons d r =>
      obtain ⟨hb1, hi1⟩ := bt_drop (drop_some h).2.2
      simp only [List.length_cons] at hlen
      refine Den.iteF (by rw [w1]; simp; omega) ?_
      refine Den.asrt (by rw [w1]; omega) ?_
      by_cases d1 : d.toNat = 110
      · refine Den.iteT (by rw [w1, hb1]; simp; omega) ?_
        rw [pcV_some (b := 10) (n := 2) (by simp [pc, h4, d1])]
        exact Den.leaf _
      refine Den.iteF (by rw [w1, hb1]; simp; omega) ?_
      by_cases d2 : d.toNat = 116
      · refine Den.iteT (by rw [w1, hb1]; simp; omega) ?_
        rw [pcV_some (b := 9) (n := 2) (by simp [pc, h4, d2])]
        exact Den.leaf _
      refine Den.iteF (by rw [w1, hb1]; simp; omega) ?_
      by_cases d3 : d.toNat = 34
      · refine Den.iteT (by rw [w1, hb1]; simp; omega) ?_
        refine Den.iteT (by rw [w1, hb1]; simp; omega) ?_
        refine Den.asrt (by rw [w1]; omega) ?_
        rw [pcV_some (b := d) (n := 2) (by simp [pc, h4, d3])]
        exact Den.leaf' (by rw [w1, hb1]; rfl)
      refine Den.iteF (by rw [w1, hb1]; simp; omega) ?_
      by_cases d4 : d.toNat = 92
      · refine Den.iteT (by rw [w1, hb1]; simp; omega) ?_
        refine Den.asrt (by rw [w1]; omega) ?_
        rw [pcV_some (b := d) (n := 2) (by simp [pc, h4, d4])]
        exact Den.leaf' (by rw [w1, hb1]; rfl)
      refine Den.iteF (by rw [w1, hb1]; simp; omega) ?_
      by_cases d5 : d.toNat = 120
      rotate_left
      · refine Den.iteF (by rw [w1, hb1]; simp; omega) ?_
        exact Den.leaf' (pcV_none (by simp [pc, h4, d1, d2, d3, d4, d5])).symm
      refine Den.iteT (by rw [w1, hb1]; simp; omega) ?_
      have w3 : IntKind.i64.wrap ((i : Int) + 3) = ((i + 3 : Nat) : Int) := by rw [wrapI (by omega) (by omega)]; rfl
      have w2 : IntKind.i64.wrap ((i : Int) + 2) = ((i + 2 : Nat) : Int) := by rw [wrapI (by omega) (by omega)]; rfl
      match r, h, hlen with
      | [], h, hlen =>
        refine Den.iteF (by rw [w3]; simp at hlen; simp; omega) ?_
        exact Den.leaf' (pcV_none (by simp [pc, h4, d5])).symm
      | [x1], h, hlen =>
        refine Den.iteF (by rw [w3]; simp at hlen; simp; omega) ?_
        exact Den.leaf' (pcV_none (by simp [pc, h4, d5])).symm
      | a :: b :: r, h, hlen =>
        have h2 := (drop_some (drop_some h).2.2).2.2
        obtain ⟨hb2, hi2⟩ := bt_drop h2
        obtain ⟨hb3, hi3⟩ := bt_drop (drop_some h2).2.2
        simp only [List.length_cons] at hlen
        have hb2 : bt s ((i + 2 : Nat) : Int) = (a.toNat : Int) := hb2
        have hb3 : bt s ((i + 3 : Nat) : Int) = (b.toNat : Int) := hb3
        have ha := rhalf (X := X) a
        have hb := rhalf (X := X) b
        refine Den.iteT (by rw [w3]; simp; omega) ?_
        refine Den.asrt (by rw [w2]; omega) ?_
        refine Does.use (by rw [w2, hb2]; exact ha) ?_
        cases hx : nib a with
        | none =>
          refine Den.iteF (by simp) ?_
          exact Den.leaf' (pcV_none (by simp [pc, h4, d5, hx])).symm
        | some x =>
          rw [hx] at ha
          have hx' := nib_lt hx
          refine Den.iteT (by simp; omega) ?_
          refine Den.asrt (by rw [w3]; omega) ?_
          refine Does.use (by rw [w3, hb3]; exact hb) ?_
          cases hy : nib b with
          | none =>
            refine Den.iteF (by simp) ?_
            exact Den.leaf' (pcV_none (by simp [pc, h4, d5, hx, hy])).symm
          | some y =>
            rw [hy] at hb
            have hy' := nib_lt hy
            refine Den.iteT (by simp; omega) ?_
            refine Den.asrt (by kernel_rfl) ?_
            refine Den.asrt (by rw [w2]; omega) ?_
            refine Does.use (by rw [w2, hb2]; exact ha) ?_
            refine Den.asrt (by simp) ?_
            refine Den.asrt (by rw [w3]; omega) ?_
            refine Does.use (by rw [w3, hb3]; exact hb) ?_
            refine Den.asrt (by kernel_rfl) ?_
            refine Den.leaf' ?_
            rw [pcV_some (b := UInt8.ofNat (16 * x + y)) (n := 4) (by simp [pc, h4, d5, hx, hy])]
            exact congrArg (fun z => Out.ret (V.tuple [V.d (D.int IntKind.u8 z), vI 4]) []) (bits_r ⟨x, hx'⟩ ⟨y, hy'⟩)
set_option maxHeartbeats 4000000 in
theorem rquo_loop (s : ByteArray) (hs : s.size ≤ 1048576) (K : Ex → St → T Out) (O : ByteArray × Int → Out)
    (hR : ∀ x : ByteArray × Int, Den Tryz.prog tt X (K .ret ⟨[(4, vS x.1), (5, vI x.2)], []⟩) (O x)) :
    ∀ (f : Nat) (A : List UInt8) (i : Nat), A.length ≤ i → ((L s).drop i).length < f → i ≤ s.size → ∀ σ : St, getT σ.t 0 = vS s → getT σ.t 7 = vI i → WkV σ (.own (40, here) 1 (A.map byteD)) (getT σ.t 6) →
      Den Tryz.prog tt X (.loop (lp Tryz.f75 0) σ K) (O (qI (-1) A i (ql f ((L s).drop i))))
  | 0, A, i, hA, hl, hi, σ, g0, g5, g4 => by omega
  | f + 1, A, i, hA, hl, hi, σ, g0, g5, g4 => by
    have hz : s.size - i < f + 1 := by rw [List.length_drop, L_length] at hl; exact hl
    clear hl
    have wk0 : Wk ⟨[(0, vS s), (7, vI i), (6, .own (40, here) 1 (A.map byteD))], []⟩ σ := ⟨⟨.inl g0.symm, .inl g5.symm, g4, trivial⟩, trivial⟩
    have hpc := rpiece (X := X) s hs i hi
    cases h : (L s).drop i with
    | nil =>
      have h1 := drop_none h; rw [L_length] at h1
      rw [h, pcV_none rfl] at hpc
      refine Den.loopW (G := none) (σ2 := ?s1) (e := .ret) _ ⟨[(4, vS ⟨#[]⟩), (5, vI (-1))], []⟩ (by simp) (by simp) wk0 ?b1 ?w1 ?k1
      case b1 =>
        refine Den.iteF (by simp; omega) ?_
        refine Does.use hpc ?_
        refine Den.iteT (by simp) ?_
        exact Den.leaf _
      case w1 => exact ⟨⟨.inl rfl, .inl rfl, trivial⟩, trivial⟩
      case k1 => simpa [ql, qI] using hR (⟨#[]⟩, -1)
    | cons c r =>
      obtain ⟨hb, hi'⟩ := bt_drop h
      by_cases hq : c.toNat = 34
      · by_cases hA2 : A.length ≤ 4096
        · refine Den.loopW (G := none) (σ2 := ?s2) (e := .ret) _ ⟨[(4, vS (mkB A)), (5, vI ((i + 1 : Nat) : Int))], []⟩ (by simp) (by simp) wk0 ?b2 ?w2 ?k2
          case b2 =>
            refine Den.iteT (by simp; omega) ?_
            refine Den.asrt (by omega) ?_
            refine Den.iteT (by rw [hb]; simp; omega) ?_
            refine Den.iteF (by simp; omega) ?_
            refine Den.bytes A rfl ?_
            exact Den.leaf _
          case w2 => exact ⟨⟨.inl rfl, .inl (by show _ = vI (IntKind.i64.wrap ((i : Int) + 1)); rw [wrapI (by omega) (by omega)]; rfl), trivial⟩, trivial⟩
          case k2 =>
            have := hR (mkB A, ((i + 1 : Nat) : Int))
            simp only [ql, hq, if_true, qI, List.append_nil, List.length_nil]
            rw [if_pos (by omega)]
            exact this
        · refine Den.loopW (G := none) (σ2 := ?s3) (e := .ret) _ ⟨[(4, vS ⟨#[]⟩), (5, vI (-1))], []⟩ (by simp) (by simp) wk0 ?b3 ?w3 ?k3
          case b3 =>
            refine Den.iteT (by simp; omega) ?_
            refine Den.asrt (by omega) ?_
            refine Den.iteT (by rw [hb]; simp; omega) ?_
            refine Den.iteT (by simp; omega) ?_
            exact Den.leaf _
          case w3 => exact ⟨⟨.inl rfl, .inl rfl, trivial⟩, trivial⟩
          case k3 =>
            simp only [ql, hq, if_true, qI, List.append_nil, List.length_nil]
            rw [if_neg (by omega)]
            exact hR (⟨#[]⟩, -1)
      · rw [h] at hpc
        cases hp : pc (c :: r) with
        | none =>
          rw [pcV_none hp] at hpc
          refine Den.loopW (G := none) (σ2 := ?s4) (e := .ret) _ ⟨[(4, vS ⟨#[]⟩), (5, vI (-1))], []⟩ (by simp) (by simp) wk0 ?b4 ?w4 ?k4
          case b4 =>
            refine Den.iteT (by simp; omega) ?_
            refine Den.asrt (by omega) ?_
            refine Den.iteF (by rw [hb]; simp; omega) ?_
            refine Does.use hpc ?_
            refine Den.iteT (by simp) ?_
            exact Den.leaf _
          case w4 => exact ⟨⟨.inl rfl, .inl rfl, trivial⟩, trivial⟩
          case k4 =>
            unfold ql; rw [if_neg hq]; simp only [hp, qI]
            exact hR (⟨#[]⟩, -1)
        | some q =>
          obtain ⟨b, n⟩ := q
          rw [pcV_some hp] at hpc
          obtain ⟨p1, p2⟩ := pc_pos hp
          have hlen := congrArg List.length h
          rw [List.length_drop, L_length] at hlen
          obtain ⟨q2, q3⟩ := quo_arith hlen p2 p1 hz hi
          have ed : (c :: r).drop n = (L s).drop (i + n) := by rw [← h, List.drop_drop]
          refine Den.loopN (G := none) (σ2 := ?s5) _ wk0 ?b5 ?r5
          case b5 =>
            refine Den.iteT (by simp; omega) ?_
            refine Den.asrt (by omega) ?_
            refine Den.iteF (by rw [hb]; simp; omega) ?_
            refine Does.use hpc ?_
            refine Den.iteF (by simp; omega) ?_
            refine Den.asrt (by show ((A.map byteD).length + 1) * 1 ≤ 140737488355328; rw [List.length_map]; omega) ?_
            exact Den.leaf _
          case r5 =>
            have e : qI (-1) A i (ql (f + 1) (c :: r)) = qI (-1) (A ++ [b]) (i + n) (ql f ((L s).drop (i + n))) := by
              conv => lhs; unfold ql
              rw [if_neg hq]
              simp only [hp, ed]
              cases ql f ((L s).drop (i + n)) with
              | none => rfl
              | some z =>
                obtain ⟨t, m⟩ := z
                simp only [qI, List.length_append, List.length_cons, List.length_nil, List.append_assoc, List.singleton_append]
                by_cases hh : A.length + (t.length + 1) ≤ 4096
                · rw [if_pos hh, if_pos (by omega), Nat.add_assoc]
                · rw [if_neg hh, if_neg (by omega)]
            rw [e]
            refine rquo_loop s hs K O hR f (A ++ [b]) (i + n) (len_snoc (by omega)) (drop_len q2) q3 _ rfl ?_ (.inl ?_)
            · show vI (IntKind.i64.wrap ((i : Int) + (n : Int))) = _
              rw [wrapI (by omega) (by omega)]; rfl
            · rw [List.map_append]; rfl
theorem rquoted (s : ByteArray) (hs : s.size ≤ 1048576) (i : Nat) (c : UInt8) (r : List UInt8) (h : (L s).drop i = c :: r) : Does X 75 [vS s, vI i] [] ((fun x : ByteArray × Int => Out.ret (.tuple [vS x.1, vI x.2]) []) (match quo r with | none => (⟨#[]⟩, -1) | some (t, n) => (mkB t, ((i + n : Nat) : Int)))) := by
  refine Does.of Tryz.func75 (by kernel_rfl) ?_
  obtain ⟨hb0, hi0⟩ := bt_drop h
  have hr := (drop_some h).2.2
  have e : (match quo r with | none => ((⟨#[]⟩ : ByteArray), (-1 : Int)) | some (t, n) => (mkB t, ((i + n : Nat) : Int))) = qI (-1) [] (i + 1) (ql (r.length + 1) ((L s).drop (i + 1))) := by
    rw [hr]
    unfold quo
    cases ql (r.length + 1) r with
    | none => rfl
    | some z =>
      obtain ⟨t, m⟩ := z
      simp only [qI, List.length_nil, List.nil_append, Nat.zero_add]
      by_cases ht : t.length ≤ 4096
      · simp only [if_pos ht]; congr 2; omega
      · simp only [if_neg ht]
  rw [e]
  refine rquo_loop s hs _ (fun x : ByteArray × Int => Out.ret (.tuple [vS x.1, vI x.2]) []) (fun x => Den.leaf _) (r.length + 1) [] (i + 1) (by simp) (by rw [hr]; omega) (by omega) _ rfl ?_ (.inr (.inr ⟨(40, here), 1, 1, rfl, rfl, rfl, rfl⟩))
  show vI (IntKind.i64.wrap ((i : Int) + 1)) = _
  rw [wrapI (by omega) (by omega)]; rfl
end Go.Proofs.YtacfbgfphkfobaaGreatDoor.Id
/-! ## DenGapR -/
namespace Go.Proofs.YtacfbgfphkfobaaGreatDoor.Id
open Go
set_option linter.unusedVariables false
set_option linter.unusedSimpArgs false
variable {X : Given}
theorem rcom_loop {α : Type} (s : ByteArray) (hs : s.size ≤ 1048576) (K : Ex → St → T α) (o : α) : ∀ (r : List UInt8) (i : Nat), (L s).drop i = r →
    Den Tryz.prog tt X (K (.exit 3) ⟨[(1, vI ((i + (r.takeWhile (fun c => !isNl c)).length : Nat) : Int)), (0, vS s)], []⟩) o → ∀ σ : St, getT σ.t 0 = vS s → getT σ.t 1 = vI i → Den Tryz.prog tt X (.loop (lp Tryz.f43 1) σ K) o
  | [], i, h, hK, σ, g0, g1 => by
    have h1 := drop_none h; rw [L_length] at h1
    refine Den.loopW (G := none) (σ2 := ?s1) (e := .exit 3) ⟨[(1, vI i), (0, vS s)], []⟩ ⟨[(1, vI i), (0, vS s)], []⟩ (by simp) (by simp) ⟨⟨.inl g1.symm, .inl g0.symm, trivial⟩, trivial⟩ ?b1 ?w1 ?k1
    case b1 =>
      refine Den.iteF (by simp; omega) ?_
      exact Den.leaf _
    case w1 => exact ⟨⟨.inl rfl, .inl rfl, trivial⟩, trivial⟩
    case k1 => simpa using hK
  | c :: r, i, h, hK, σ, g0, g1 => by
    obtain ⟨hb, hi⟩ := bt_drop h
    have hn : isNl c = true ↔ c.toNat = 10 := by unfold isNl; simp
    by_cases hc : c.toNat = 10
    · refine Den.loopW (G := none) (σ2 := ?s2) (e := .exit 3) ⟨[(1, vI i), (0, vS s)], []⟩ ⟨[(1, vI i), (0, vS s)], []⟩ (by simp) (by simp) ⟨⟨.inl g1.symm, .inl g0.symm, trivial⟩, trivial⟩ ?b2 ?w2 ?k2
      case b2 =>
        refine Den.iteT (by simp; omega) ?_
        refine Den.asrt (by omega) ?_
        refine Den.iteF (by rw [hb]; simp; omega) ?_
        exact Den.leaf _
      case w2 => exact ⟨⟨.inl rfl, .inl rfl, trivial⟩, trivial⟩
      case k2 =>
        rw [List.takeWhile_cons, hn.2 hc] at hK
        simpa using hK
    · have hn' : isNl c = false := by rw [← Bool.not_eq_true]; exact fun x => hc (hn.1 x)
      refine Den.loopN (G := none) (σ2 := ?s3) ⟨[(1, vI i), (0, vS s)], []⟩ ⟨⟨.inl g1.symm, .inl g0.symm, trivial⟩, trivial⟩ ?b3 ?r3
      case b3 =>
        refine Den.iteT (by simp; omega) ?_
        refine Den.asrt (by omega) ?_
        refine Den.iteT (by rw [hb]; simp; omega) ?_
        exact Den.leaf _
      case r3 =>
        refine rcom_loop s hs K o r (i + 1) (drop_some h).2.2 ?_ _ rfl ?_
        · rw [List.takeWhile_cons, hn'] at hK
          simp only [Bool.not_false, if_true, List.length_cons] at hK
          rwa [show i + 1 + (r.takeWhile (fun c => !isNl c)).length = i + ((r.takeWhile (fun c => !isNl c)).length + 1) by omega]
        · show vI (IntKind.i64.wrap ((i : Int) + 1)) = _
          rw [wrapI (by omega) (by omega)]; rfl
theorem isSp_iff (c : UInt8) : isSp c = true ↔ c.toNat = 32 ∨ c.toNat = 9 ∨ c.toNat = 10 ∨ c.toNat = 13 := by
  unfold isSp; simp only [Bool.or_eq_true, decide_eq_true_eq]; omega
set_option maxHeartbeats 4000000 in
theorem rgap_loop (s : ByteArray) (hs : s.size ≤ 1048576) (K : Ex → St → T Out) (o : Out) : ∀ (n i : Nat), s.size - i ≤ n →
    Den Tryz.prog tt X (K (.exit 0) ⟨[(1, vI ((i + gapL false ((L s).drop i) : Nat) : Int))], []⟩) o → Den Tryz.prog tt X (K .ret ⟨[(4, vI ((i + gapL false ((L s).drop i) : Nat) : Int))], []⟩) o → i ≤ s.size →
    ∀ σ : St, getT σ.t 0 = vS s → getT σ.t 1 = vI i → Den Tryz.prog tt X (.loop (lp Tryz.f43 0) σ K) o := by
  intro n
  induction n with
  | zero =>
    intro i h0 hE hR hi σ g0 g1
    refine Den.loopW (G := none) (σ2 := ?s4) (e := .exit 0) ⟨[(1, vI i), (0, vS s)], []⟩ ⟨[(1, vI i)], []⟩ (by simp) (by simp) ⟨⟨.inl g1.symm, .inl g0.symm, trivial⟩, trivial⟩ ?b4 ?w4 ?k4
    case b4 =>
      refine Den.iteF (by simp; omega) ?_
      exact Den.leaf _
    case w4 => exact ⟨⟨.inl rfl, trivial⟩, trivial⟩
    case k4 =>
      rw [List.drop_eq_nil_of_le (by rw [L_length]; omega)] at hE
      simpa [gapL] using hE
  | succ n ih =>
    intro i h0 hE hR hi0 σ g0 g1
    have wk0 : Wk ⟨[(1, vI i), (0, vS s)], []⟩ σ := ⟨⟨.inl g1.symm, .inl g0.symm, trivial⟩, trivial⟩
    cases h : (L s).drop i with
    | nil =>
      have h2 := drop_none h
      rw [L_length] at h2
      refine Den.loopW (G := none) (σ2 := ?s5) (e := .exit 0) _ ⟨[(1, vI i)], []⟩ (by simp) (by simp) wk0 ?b5 ?w5 ?k5
      case b5 =>
        refine Den.iteF (by simp; omega) ?_
        exact Den.leaf _
      case w5 => exact ⟨⟨.inl rfl, trivial⟩, trivial⟩
      case k5 =>
        rw [h] at hE
        simpa [gapL] using hE
    | cons c r =>
      obtain ⟨hb, hi⟩ := bt_drop h
      have w1 : IntKind.i64.wrap ((i : Int) + 1) = ((i + 1 : Nat) : Int) := by rw [wrapI (by omega) (by omega)]; rfl
      have hsp := isSp_iff c
      have hnext : isSp c = true → i + gapL false ((L s).drop i) = i + 1 + gapL false ((L s).drop (i + 1)) := fun hc => by
        rw [h, (drop_some h).2.2]; simp only [gapL, hc, if_true]; omega
      by_cases c1 : c.toNat = 32
      · have e := hnext (hsp.2 (.inl c1))
        rw [e] at hE hR
        refine Den.loopN (G := none) (σ2 := ?s6) _ wk0 ?b6 ?r6
        case b6 =>
          refine Den.iteT (by simp; omega) ?_
          refine Den.asrt (by omega) ?_
          refine Den.iteT (by rw [hb]; simp; omega) ?_
          exact Den.leaf _
        case r6 => exact ih (i + 1) (by omega) hE hR (by omega) _ rfl (congrArg vI w1)
      by_cases c2 : c.toNat = 9
      · have e := hnext (hsp.2 (.inr (.inl c2)))
        rw [e] at hE hR
        refine Den.loopN (G := none) (σ2 := ?s7) _ wk0 ?b7 ?r7
        case b7 =>
          refine Den.iteT (by simp; omega) ?_
          refine Den.asrt (by omega) ?_
          refine Den.iteF (by rw [hb]; simp; omega) ?_
          refine Den.iteT (by rw [hb]; simp; omega) ?_
          exact Den.leaf _
        case r7 => exact ih (i + 1) (by omega) hE hR (by omega) _ rfl (congrArg vI w1)
      by_cases c3 : c.toNat = 10
      · have e := hnext (hsp.2 (.inr (.inr (.inl c3))))
        rw [e] at hE hR
        refine Den.loopN (G := none) (σ2 := ?s8) _ wk0 ?b8 ?r8
        case b8 =>
          refine Den.iteT (by simp; omega) ?_
          refine Den.asrt (by omega) ?_
          refine Den.iteF (by rw [hb]; simp; omega) ?_
          refine Den.iteF (by rw [hb]; simp; omega) ?_
          refine Den.iteT (by rw [hb]; simp; omega) ?_
          exact Den.leaf _
        case r8 => exact ih (i + 1) (by omega) hE hR (by omega) _ rfl (congrArg vI w1)
      by_cases c4 : c.toNat = 13
      · have e := hnext (hsp.2 (.inr (.inr (.inr c4))))
        rw [e] at hE hR
        refine Den.loopN (G := none) (σ2 := ?s9) _ wk0 ?b9 ?r9
        case b9 =>
          refine Den.iteT (by simp; omega) ?_
          refine Den.asrt (by omega) ?_
          refine Den.iteF (by rw [hb]; simp; omega) ?_
          refine Den.iteF (by rw [hb]; simp; omega) ?_
          refine Den.iteF (by rw [hb]; simp; omega) ?_
          refine Den.iteT (by rw [hb]; simp; omega) ?_
          exact Den.leaf _
        case r9 => exact ih (i + 1) (by omega) hE hR (by omega) _ rfl (congrArg vI w1)
      have hc : ¬ isSp c = true := fun x => by have := hsp.1 x; omega
      by_cases hd : (isSl c && headSl r) = true
      · have hnl : isNl c = false := by simp only [Bool.and_eq_true] at hd; unfold isSl at hd; unfold isNl; simp at hd; simp [hd.1]
        have h47 : c.toNat = 47 := by simp only [Bool.and_eq_true] at hd; unfold isSl at hd; simpa using hd.1
        cases r with
        | nil => simp [headSl] at hd
        | cons d r =>
          obtain ⟨hb1, hi1⟩ := bt_drop (drop_some h).2.2
          have d47 : d.toNat = 47 := by simp only [Bool.and_eq_true, headSl] at hd; unfold isSl at hd; simpa using hd.2
          have hle : (((L s).drop i).takeWhile (fun c => !isNl c)).length ≤ s.size - i := by
            have := List.takeWhile_sublist (p := fun c => !isNl c) (l := (L s).drop i) |>.length_le
            rw [List.length_drop, L_length] at this; exact this
          have hpos : 1 ≤ (((L s).drop i).takeWhile (fun c => !isNl c)).length := by
            rw [h, List.takeWhile_cons, hnl]; simp
          have e : i + gapL false ((L s).drop i) = i + (((L s).drop i).takeWhile (fun c => !isNl c)).length + gapL false ((L s).drop (i + (((L s).drop i).takeWhile (fun c => !isNl c)).length)) := by
            have g1 : gapL false ((L s).drop i) = gapL true ((L s).drop i) := by
              rw [h]; simp only [gapL, hc, hd, hnl, if_true, if_false, Bool.false_eq_true]
            rw [g1, gapL_true_take, List.drop_drop]; omega
          rw [e] at hE hR
          refine Den.loopN (G := none) (σ2 := ?s10) _ wk0 ?b10 ?r10
          case b10 =>
            refine Den.iteT (by simp; omega) ?_
            refine Den.asrt (by omega) ?_
            refine Den.iteF (by rw [hb]; simp; omega) ?_
            refine Den.iteF (by rw [hb]; simp; omega) ?_
            refine Den.iteF (by rw [hb]; simp; omega) ?_
            refine Den.iteF (by rw [hb]; simp; omega) ?_
            refine Den.iteT (by rw [hb]; simp; omega) ?_
            refine Den.iteT (by rw [w1]; simp; omega) ?_
            refine Den.asrt (by rw [w1]; omega) ?_
            refine Den.iteT (by rw [w1, hb1]; simp; omega) ?_
            refine rcom_loop s hs _ _ _ i rfl ?_ _ rfl rfl
            exact Den.leaf _
          case r10 => exact ih _ (by omega) hE hR (by omega) _ rfl rfl
      · have e : gapL false ((L s).drop i) = 0 := by rw [h]; simp only [gapL, hc, hd, if_false, Bool.false_eq_true]
        rw [e] at hE hR
        by_cases h47 : c.toNat = 47
        rotate_left
        · refine Den.loopW (G := none) (σ2 := ?s11) (e := .ret) _ ⟨[(4, vI i)], []⟩ (by simp) (by simp) wk0 ?b11 ?w11 ?k11
          case b11 =>
            refine Den.iteT (by simp; omega) ?_
            refine Den.asrt (by omega) ?_
            refine Den.iteF (by rw [hb]; simp; omega) ?_
            refine Den.iteF (by rw [hb]; simp; omega) ?_
            refine Den.iteF (by rw [hb]; simp; omega) ?_
            refine Den.iteF (by rw [hb]; simp; omega) ?_
            refine Den.iteF (by rw [hb]; simp; omega) ?_
            exact Den.leaf _
          case w11 => exact ⟨⟨.inl rfl, trivial⟩, trivial⟩
          case k11 => simpa using hR
        cases r with
        | nil =>
          have := drop_none (drop_some h).2.2; rw [L_length] at this
          · refine Den.loopW (G := none) (σ2 := ?s12) (e := .ret) _ ⟨[(4, vI i)], []⟩ (by simp) (by simp) wk0 ?b12 ?w12 ?k12
            case b12 =>
              refine Den.iteT (by simp; omega) ?_
              refine Den.asrt (by omega) ?_
              refine Den.iteF (by rw [hb]; simp; omega) ?_
              refine Den.iteF (by rw [hb]; simp; omega) ?_
              refine Den.iteF (by rw [hb]; simp; omega) ?_
              refine Den.iteF (by rw [hb]; simp; omega) ?_
              refine Den.iteT (by rw [hb]; simp; omega) ?_
              refine Den.iteF (by rw [w1]; simp; omega) ?_
              exact Den.leaf _
            case w12 => exact ⟨⟨.inl rfl, trivial⟩, trivial⟩
            case k12 => simpa using hR
        | cons d r =>
          obtain ⟨hb1, hi1⟩ := bt_drop (drop_some h).2.2
          have d47 : ¬ d.toNat = 47 := fun x => hd (by simp [isSl, headSl, h47, x])
          · refine Den.loopW (G := none) (σ2 := ?s13) (e := .ret) _ ⟨[(4, vI i)], []⟩ (by simp) (by simp) wk0 ?b13 ?w13 ?k13
            case b13 =>
              refine Den.iteT (by simp; omega) ?_
              refine Den.asrt (by omega) ?_
              refine Den.iteF (by rw [hb]; simp; omega) ?_
              refine Den.iteF (by rw [hb]; simp; omega) ?_
              refine Den.iteF (by rw [hb]; simp; omega) ?_
              refine Den.iteF (by rw [hb]; simp; omega) ?_
              refine Den.iteT (by rw [hb]; simp; omega) ?_
              refine Den.iteT (by rw [w1]; simp; omega) ?_
              refine Den.asrt (by rw [w1]; omega) ?_
              refine Den.iteF (by rw [w1, hb1]; simp; omega) ?_
              exact Den.leaf _
            case w13 => exact ⟨⟨.inl rfl, trivial⟩, trivial⟩
            case k13 => simpa using hR
theorem rgap (s : ByteArray) (hs : s.size ≤ 1048576) (i : Nat) (hi : i ≤ s.size) : Does X 43 [vS s, vI i] [] (.ret (vI ((i + gapL false ((L s).drop i) : Nat) : Int)) []) := by
  refine Does.of Tryz.func43 (by kernel_rfl) ?_
  exact rgap_loop s hs _ _ s.size i (by omega) (Den.leaf _) (Den.leaf _) hi _ rfl rfl
end Go.Proofs.YtacfbgfphkfobaaGreatDoor.Id
/-! ## DenKey -/
namespace Go.Proofs.YtacfbgfphkfobaaGreatDoor.Id
open Go
set_option linter.unusedVariables false
set_option linter.unusedSimpArgs false
variable {X : Given}
def rowS (l : List ByteArray) : List (List D) := l.map fun x => [D.str x]
theorem rowS_get {l : List ByteArray} {i : Nat} {x : ByteArray} {r : List ByteArray} (h : l.drop i = x :: r) : (rowS l)[((i : Int)).toNat]? = some [D.str x] := by
  have hi := (drop_some h).1
  have h2 := (drop_some h).2.1 x
  rw [List.getD_eq_getElem?_getD, List.getElem?_eq_getElem hi] at h2
  simp at h2
  unfold rowS
  rw [show ((i : Int)).toNat = i by omega, List.getElem?_map, List.getElem?_eq_getElem hi, h2]
  rfl
theorem among_loop (l : List ByteArray) (hl : l.length ≤ 1048576) (a : ByteArray) (K : Ex → St → T Out) (o : Bool → Out) (hE : Den Tryz.prog tt X (K (.exit 0) ⟨[], []⟩) (o false)) (hR : Den Tryz.prog tt X (K .ret ⟨[(4, .lit true)], []⟩) (o true)) :
    ∀ (r : List ByteArray) (i : Nat), l.drop i = r → ∀ σ : St, getT σ.t 0 = .d (.sl 1 (rowS l)) → getT σ.t 1 = vS a → getT σ.t 5 = vI i → Den Tryz.prog tt X (.loop (lp Tryz.f107 0) σ K) (o (r.any fun x => decide (x = a)))
  | [], i, h, σ, g0, g1, g5 => by
    have h1 := drop_none h
    refine Den.loopW (G := none) (σ2 := ?s1) (e := .exit 0) ⟨[(0, .d (.sl 1 (rowS l))), (1, vS a), (5, vI i)], []⟩ ⟨[], []⟩ (by simp) (by simp) ⟨⟨.inl g0.symm, .inl g1.symm, .inl g5.symm, trivial⟩, trivial⟩ ?b1 ?w1 ?k1
    case b1 =>
      refine Den.iteF (by simp [rowS]; omega) ?_
      exact Den.leaf _
    case w1 => exact ⟨trivial, trivial⟩
    case k1 => exact hE
  | x :: r, i, h, σ, g0, g1, g5 => by
    have hi := (drop_some h).1
    by_cases hx : x = a
    · refine Den.loopW (G := none) (σ2 := ?s2) (e := .ret) ⟨[(0, .d (.sl 1 (rowS l))), (1, vS a), (5, vI i)], []⟩ ⟨[(4, .lit true)], []⟩ (by simp) (by simp) ⟨⟨.inl g0.symm, .inl g1.symm, .inl g5.symm, trivial⟩, trivial⟩ ?b2 ?w2 ?k2
      case b2 =>
        refine Den.iteT (by simp [rowS]; omega) ?_
        refine Den.idx _ (by omega) (rowS_get h) ?_
        refine Den.iteT (by simpa using hx) ?_
        exact Den.leaf _
      case w2 => exact ⟨⟨.inl rfl, trivial⟩, trivial⟩
      case k2 =>
        rw [List.any_cons, decide_eq_true hx]; exact hR
    · refine Den.loopN (G := none) (σ2 := ?s3) ⟨[(0, .d (.sl 1 (rowS l))), (1, vS a), (5, vI i)], []⟩ ⟨⟨.inl g0.symm, .inl g1.symm, .inl g5.symm, trivial⟩, trivial⟩ ?b3 ?r3
      case b3 =>
        refine Den.iteT (by simp [rowS]; omega) ?_
        refine Den.idx _ (by omega) (rowS_get h) ?_
        refine Den.iteF (by simpa using hx) ?_
        exact Den.leaf _
      case r3 =>
        rw [List.any_cons, decide_eq_false hx, Bool.false_or]
        refine among_loop l hl a K o hE hR r (i + 1) (drop_some h).2.2 _ rfl rfl ?_
        show vI (IntKind.i64.wrap ((i : Int) + 1)) = _
        rw [wrapI (by omega) (by omega)]; rfl
theorem ramong (l : List ByteArray) (hl : l.length ≤ 1048576) (a : ByteArray) : Does X 107 [.d (.sl 1 (rowS l)), vS a] [] (.ret (vB (l.any fun x => decide (x = a))) []) := by
  refine Does.of Tryz.func107 (by kernel_rfl) ?_
  refine among_loop l hl a _ (fun b => .ret (vB b) []) ?_ ?_ l 0 rfl _ rfl rfl rfl
  · exact Den.leaf _
  · exact Den.leaf _
def keyTexts : List (List UInt8) := [[105, 110, 99, 108, 117, 100, 101], [97, 115], [101, 120, 112, 111, 114, 116], [99, 111, 110, 115, 116], [102, 117, 110, 99], [118, 97, 114], [105, 102], [101, 108, 115, 101], [119, 104, 105, 108, 101], [114, 101, 116, 117, 114, 110], [112, 114, 105, 110, 116], [116, 114, 117, 101], [102, 97, 108, 115, 101], [105, 110, 116], [98, 111, 111, 108], [116, 101, 120, 116]]
def twoSigns : List (List UInt8) := [[61, 61], [33, 61], [60, 61], [62, 61], [43, 43], [38, 38], [124, 124]]
def oneSigns : List UInt8 := [40, 41, 123, 125, 44, 59, 58, 46, 61, 60, 62, 43, 45, 42, 47, 37, 33, 35]
theorem any_mem (l : List (List UInt8)) (a : ByteArray) : ((l.map mkB).any fun x => decide (x = a)) = decide (L a ∈ l) := by
  rw [Bool.eq_iff_iff]
  simp only [List.any_eq_true, List.mem_map, decide_eq_true_eq]
  constructor
  · rintro ⟨x, ⟨y, hy, rfl⟩, rfl⟩; rw [L_mkB]; exact hy
  · intro h; exact ⟨_, ⟨_, h, rfl⟩, mkB_L a⟩
theorem rkeys : Does X 108 [] [] (.ret (.d (.sl 1 (rowS (keyTexts.map mkB)))) []) := by
  refine Does.of Tryz.func108 (by kernel_rfl) ?_
  exact Den.leaf' rfl
theorem rkey (a : ByteArray) : Does X 73 [vS a] [] (.ret (vB (decide (L a ∈ keyTexts))) []) := by
  refine Does.of Tryz.func73 (by kernel_rfl) ?_
  refine Does.use rkeys ?_
  refine Does.use (ramong _ (by simp [keyTexts]) a) ?_
  rw [any_mem]
  exact Den.leaf _
/-- cells of an array of texts -/
def cellS (l : List ByteArray) : List D := l.map D.str
theorem cellS_get {l : List ByteArray} {i : Nat} {x : ByteArray} {r : List ByteArray} (h : l.drop i = x :: r) : ((cellS l).map fun x => [x])[((i : Int)).toNat]? = some [D.str x] := by
  have := rowS_get h
  unfold rowS at this
  unfold cellS
  rw [List.map_map]; exact this
def keysB : List ByteArray := keyTexts.map mkB
theorem lkey_loop (a : ByteArray) (K : Ex → St → T Out) (o : Bool → Out) (hE : Den Tryz.prog tt X (K (.exit 0) ⟨[], []⟩) (o false)) (hR : Den Tryz.prog tt X (K .ret ⟨[(2, .lit true)], []⟩) (o true)) :
    ∀ (r : List ByteArray) (i : Nat), keysB.drop i = r → i ≤ 16 → ∀ σ : St, getT σ.t 0 = vS a → getT σ.t 7 = .agg (cellS keysB) → getT σ.t 8 = vI i → Den Tryz.prog tt X (.loop (lp Tryz.f119 0) σ K) (o (r.any fun x => decide (x = a)))
  | [], i, h, hi, σ, g0, g7, g8 => by
    have h1 : 16 ≤ i := drop_none h
    refine Den.loopW (G := none) (σ2 := ?s4) (e := .exit 0) ⟨[(0, vS a), (7, .agg (cellS keysB)), (8, vI i)], []⟩ ⟨[], []⟩ (by simp) (by simp) ⟨⟨.inl g0.symm, .inl g7.symm, .inl g8.symm, trivial⟩, trivial⟩ ?b4 ?w4 ?k4
    case b4 =>
      refine Den.iteF (by simp; omega) ?_
      exact Den.leaf _
    case w4 => exact ⟨trivial, trivial⟩
    case k4 => exact hE
  | x :: r, i, h, hi0, σ, g0, g7, g8 => by
    have hi : i < 16 := (drop_some h).1
    by_cases hx : x = a
    · refine Den.loopW (G := none) (σ2 := ?s5) (e := .ret) ⟨[(0, vS a), (7, .agg (cellS keysB)), (8, vI i)], []⟩ ⟨[(2, .lit true)], []⟩ (by simp) (by simp) ⟨⟨.inl g0.symm, .inl g7.symm, .inl g8.symm, trivial⟩, trivial⟩ ?b5 ?w5 ?k5
      case b5 =>
        refine Den.iteT (by simp; omega) ?_
        refine Den.idx _ (by omega) (cellS_get h) ?_
        refine Den.iteT (by simpa using hx.symm) ?_
        exact Den.leaf _
      case w5 => exact ⟨⟨.inl rfl, trivial⟩, trivial⟩
      case k5 =>
        rw [List.any_cons, decide_eq_true hx]; exact hR
    · refine Den.loopN (G := none) (σ2 := ?s6) ⟨[(0, vS a), (7, .agg (cellS keysB)), (8, vI i)], []⟩ ⟨⟨.inl g0.symm, .inl g7.symm, .inl g8.symm, trivial⟩, trivial⟩ ?b6 ?r6
      case b6 =>
        refine Den.iteT (by simp; omega) ?_
        refine Den.idx _ (by omega) (cellS_get h) ?_
        refine Den.iteF (by simpa using fun e : a = x => hx e.symm) ?_
        exact Den.leaf _
      case r6 =>
        rw [List.any_cons, decide_eq_false hx, Bool.false_or]
        refine lkey_loop a K o hE hR r (i + 1) (drop_some h).2.2 (by omega) _ rfl rfl ?_
        show vI (IntKind.i64.wrap ((i : Int) + 1)) = _
        rw [wrapI (by omega) (by omega)]; rfl
theorem lkey (a : ByteArray) : Does X 119 [vS a] [] (.ret (vB (decide (L a ∈ keyTexts))) []) := by
  refine Does.of Tryz.func119 (by kernel_rfl) ?_
  rw [← any_mem]
  refine lkey_loop a _ (fun b => .ret (vB b) []) ?_ ?_ keysB 0 rfl (by omega) _ rfl rfl rfl
  · exact Den.leaf _
  · exact Den.leaf _
end Go.Proofs.YtacfbgfphkfobaaGreatDoor.Id
/-! ## DenSign -/
namespace Go.Proofs.YtacfbgfphkfobaaGreatDoor.Id
open Go
set_option linter.unusedVariables false
set_option linter.unusedSimpArgs false
variable {X : Given}
theorem byte_all' {p : UInt8 → Bool} (h : (List.range 256).all (fun n => p (UInt8.ofNat n)) = true) (c : UInt8) : p c = true := by
  have := (List.all_eq_true.mp h) c.toNat (List.mem_range.mpr c.toNat_lt)
  simpa using this
def sgn (l : List UInt8) : Nat := if l.take 2 ∈ twoSigns then 2 else match l with | [] => 0 | c :: _ => if c ∈ oneSigns then 1 else 0
theorem two_len (t : List UInt8) (h : t ∈ twoSigns) : t.length = 2 := by
  unfold twoSigns at h; simp at h; rcases h with rfl | rfl | rfl | rfl | rfl | rfl | rfl <;> rfl
def twoB : List ByteArray := twoSigns.map mkB
theorem lsign_loop (s : ByteArray) (K : Ex → St → T Out) (o : Bool → Out) (hE : Den Tryz.prog tt X (K (.exit 0) ⟨[(0, vS s)], []⟩) (o false)) (hR : Den Tryz.prog tt X (K .ret ⟨[(2, vI 2)], []⟩) (o true)) :
    ∀ (r : List ByteArray) (i : Nat), twoB.drop i = r → i ≤ 7 → ∀ σ : St, getT σ.t 0 = vS s → getT σ.t 7 = .agg (cellS twoB) → getT σ.t 8 = vI i → Den Tryz.prog tt X (.loop (lp Tryz.f121 0) σ K) (o (r.any fun x => decide (L x <+: L s)))
  | [], i, h, hi, σ, g0, g7, g8 => by
    have h1 : 7 ≤ i := drop_none h
    refine Den.loopW (G := none) (σ2 := ?s1) (e := .exit 0) ⟨[(0, vS s), (7, .agg (cellS twoB)), (8, vI i)], []⟩ ⟨[(0, vS s)], []⟩ (by simp) (by simp) ⟨⟨.inl g0.symm, .inl g7.symm, .inl g8.symm, trivial⟩, trivial⟩ ?b1 ?w1 ?k1
    case b1 =>
      refine Den.iteF (by simp; omega) ?_
      exact Den.leaf _
    case w1 => exact ⟨⟨.inl rfl, trivial⟩, trivial⟩
    case k1 => exact hE
  | x :: r, i, h, hi0, σ, g0, g7, g8 => by
    have hi : i < 7 := (drop_some h).1
    by_cases hx : L x <+: L s
    · refine Den.loopW (G := none) (σ2 := ?s2) (e := .ret) ⟨[(0, vS s), (7, .agg (cellS twoB)), (8, vI i)], []⟩ ⟨[(2, vI 2)], []⟩ (by simp) (by simp) ⟨⟨.inl g0.symm, .inl g7.symm, .inl g8.symm, trivial⟩, trivial⟩ ?b2 ?w2 ?k2
      case b2 =>
        refine Den.iteT (by simp; omega) ?_
        refine Den.idx _ (by omega) (cellS_get h) ?_
        refine Does.use (hasPrefix s x) ?_
        refine Den.iteT (by simpa using hx) ?_
        exact Den.leaf _
      case w2 => exact ⟨⟨.inl rfl, trivial⟩, trivial⟩
      case k2 =>
        rw [List.any_cons, decide_eq_true hx]; exact hR
    · refine Den.loopN (G := none) (σ2 := ?s3) ⟨[(0, vS s), (7, .agg (cellS twoB)), (8, vI i)], []⟩ ⟨⟨.inl g0.symm, .inl g7.symm, .inl g8.symm, trivial⟩, trivial⟩ ?b3 ?r3
      case b3 =>
        refine Den.iteT (by simp; omega) ?_
        refine Den.idx _ (by omega) (cellS_get h) ?_
        refine Does.use (hasPrefix s x) ?_
        refine Den.iteF (by simpa using hx) ?_
        exact Den.leaf _
      case r3 =>
        rw [List.any_cons, decide_eq_false hx, Bool.false_or]
        refine lsign_loop s K o hE hR r (i + 1) (drop_some h).2.2 (by omega) _ rfl rfl ?_
        show vI (IntKind.i64.wrap ((i : Int) + 1)) = _
        rw [wrapI (by omega) (by omega)]; rfl
theorem two_any (s : ByteArray) : (twoB.any fun x => decide (L x <+: L s)) = decide ((L s).take 2 ∈ twoSigns) := by
  rw [Bool.eq_iff_iff]
  simp only [List.any_eq_true, decide_eq_true_eq, twoB, List.mem_map]
  constructor
  · rintro ⟨x, ⟨t, ht, rfl⟩, hp⟩
    rw [L_mkB] at hp
    have := List.prefix_iff_eq_take.1 hp
    rw [two_len t ht] at this
    rw [← this]; exact ht
  · intro h
    refine ⟨_, ⟨_, h, rfl⟩, ?_⟩
    rw [L_mkB]; exact List.take_prefix _ _
theorem one_byte (c : UInt8) : decide (Lib.indexByte oneSigns c ≥ 0) = decide (c ∈ oneSigns) := by
  have := byte_all' (p := fun c => decide (Lib.indexByte oneSigns c ≥ 0) == decide (c ∈ oneSigns)) (by decide +kernel) c
  simpa using this
theorem lsign (hX : LibX X) (s : ByteArray) (h : L s ≠ []) : Does X 121 [vS s] [] (.ret (vI (sgn (L s) : Nat)) []) := by
  refine Does.of Tryz.func121 (by kernel_rfl) ?_
  cases hl : L s with
  | nil => exact absurd hl h
  | cons c r =>
    obtain ⟨hb0, hi0⟩ := bt_drop (i := 0) (s := s) (c := c) (r := r) (by simpa using hl)
    have hb0 : bt s 0 = (c.toNat : Int) := hb0
    have e : Out.ret (vI (sgn (c :: r) : Nat)) [] = (fun b : Bool => Out.ret (vI ((if b = true then 2 else if c ∈ oneSigns then 1 else 0 : Nat) : Int)) []) (twoB.any fun x => decide (L x <+: L s)) := by
      rw [two_any, hl]
      unfold sgn
      by_cases h2 : (c :: r).take 2 ∈ twoSigns
      · simp only [h2, if_true, decide_true]
      · simp only [h2, if_false, decide_false, Bool.false_eq_true]
    rw [e]
    refine lsign_loop s _ (fun b : Bool => Out.ret (vI ((if b = true then 2 else if c ∈ oneSigns then 1 else 0 : Nat) : Int)) []) ?_ ?_ twoB 0 rfl (by omega) _ rfl rfl rfl
    · refine Den.asrt (by omega) ?_
      refine Does.use (by rw [hb0]; exact indexByte hX _ c) ?_
      have h1 := one_byte c
      by_cases hc : c ∈ oneSigns
      · refine Den.iteT (by rw [decide_eq_true hc] at h1; exact h1) ?_
        exact Den.leaf' (by simp [hc])
      · refine Den.iteF (by rw [decide_eq_false hc] at h1; exact h1) ?_
        exact Den.leaf' (by simp [hc])
    · exact Den.leaf _
set_option maxHeartbeats 4000000 in
theorem rsign (s : ByteArray) (hs : s.size ≤ 1048576) (i : Nat) (c : UInt8) (r : List UInt8) (h : (L s).drop i = c :: r) : Does X 76 [vS s, vI i] [] (.ret (vI (sgn (c :: r) : Nat)) []) := by
  refine Does.of Tryz.func76 (by kernel_rfl) ?_
  obtain ⟨hb, hi⟩ := bt_drop h
  have w1 : IntKind.i64.wrap ((i : Int) + 1) = ((i + 1 : Nat) : Int) := by rw [wrapI (by omega) (by omega)]; rfl
  have w2 : IntKind.i64.wrap ((i : Int) + 2) = ((i + 2 : Nat) : Int) := by rw [wrapI (by omega) (by omega)]; rfl
  have hsz : s.size = i + r.length + 1 := by
    have := congrArg List.length h
    rw [List.length_drop, L_length, List.length_cons] at this; omega
  have ex1 : L (s.extract i (i + 1)) = [c] := by rw [L_extract, h, show i + 1 - i = 1 by omega]; rfl
  have e0 : ((i : Int)).toNat = i := by omega
  have hone : Does X 107 [.d (.sl 1 (rowS (oneSigns.map fun c => mkB [c]))), vS (s.extract ((i : Int)).toNat (IntKind.i64.wrap ((i : Int) + 1)).toNat)] [] (.ret (vB (decide (c ∈ oneSigns))) []) := by
    have := ramong (X := X) (oneSigns.map fun c => mkB [c]) (by simp [oneSigns]) (s.extract i (i + 1))
    rw [e0, w1, show (((i + 1 : Nat) : Int)).toNat = i + 1 by omega]
    have e : ((oneSigns.map fun c => mkB [c]).any fun x => decide (x = s.extract i (i + 1))) = decide (c ∈ oneSigns) := by
      have := any_mem (oneSigns.map fun c => [c]) (s.extract i (i + 1))
      rw [List.map_map] at this
      rw [show (oneSigns.map fun c => mkB [c]) = oneSigns.map (mkB ∘ fun c => [c]) from rfl, this, ex1, decide_eq_decide]
      simp
    rwa [e] at this
  by_cases h2 : i + 2 ≤ s.size
  · have ex2 : L (s.extract i (i + 2)) = (c :: r).take 2 := by rw [L_extract, h, show i + 2 - i = 2 by omega]
    have htwo : Does X 107 [.d (.sl 1 (rowS (twoSigns.map mkB))), vS (s.extract ((i : Int)).toNat (IntKind.i64.wrap ((i : Int) + 2)).toNat)] [] (.ret (vB (decide ((c :: r).take 2 ∈ twoSigns))) []) := by
      have := ramong (X := X) (twoSigns.map mkB) (by simp [twoSigns]) (s.extract i (i + 2))
      rw [e0, w2, show (((i + 2 : Nat) : Int)).toNat = i + 2 by omega]
      rwa [any_mem, ex2] at this
    refine Den.iteT (by rw [w2]; simp; omega) ?_
    refine Den.asrt (by simp only [Option.getD_some]; rw [w2]; omega) ?_
    refine Does.use htwo ?_
    by_cases hm : (c :: r).take 2 ∈ twoSigns
    · refine Den.iteT (decide_eq_true hm) ?_
      exact Den.leaf' (by simp only [sgn, if_pos hm]; rfl)
    · refine Den.iteF (decide_eq_false hm) ?_
      refine Den.asrt (by simp only [Option.getD_some]; rw [w1]; omega) ?_
      refine Does.use hone ?_
      by_cases hc : c ∈ oneSigns
      · refine Den.iteT (by simpa using hc) ?_
        exact Den.leaf' (by simp only [sgn, if_neg hm, if_pos hc]; rfl)
      · refine Den.iteF (by simpa using hc) ?_
        exact Den.leaf' (by simp only [sgn, if_neg hm, if_neg hc]; rfl)
  · have hm : (c :: r).take 2 ∉ twoSigns := fun x => by
      have := two_len _ x
      rw [List.length_take, List.length_cons] at this; omega
    refine Den.iteF (by rw [w2]; simp; omega) ?_
    refine Den.asrt (by simp only [Option.getD_some]; rw [w1]; omega) ?_
    refine Does.use hone ?_
    by_cases hc : c ∈ oneSigns
    · refine Den.iteT (by simpa using hc) ?_
      exact Den.leaf' (by simp only [sgn, if_neg hm, if_pos hc]; rfl)
    · refine Den.iteF (by simpa using hc) ?_
      exact Den.leaf' (by simp only [sgn, if_neg hm, if_neg hc]; rfl)
end Go.Proofs.YtacfbgfphkfobaaGreatDoor.Id
/-! ## DenNum -/
namespace Go.Proofs.YtacfbgfphkfobaaGreatDoor.Id
open Go
set_option linter.unusedVariables false
set_option linter.unusedSimpArgs false
variable {X : Given}
/-! ### the value of digits -/
def dv (c : UInt8) : Nat := c.toNat - 48
def dval (a : Nat) (l : List UInt8) : Nat := l.foldl (fun x c => 10 * x + dv c) a
theorem dval_nil (a : Nat) : dval a [] = a := List.foldl_nil
theorem dval_cons (a : Nat) (c : UInt8) (r : List UInt8) : dval a (c :: r) = dval (10 * a + dv c) r := List.foldl_cons ..
attribute [irreducible] dval
theorem dval_ge : ∀ (l : List UInt8) (a : Nat), a ≤ dval a l
  | [], a => by rw [dval_nil]; exact Nat.le_refl _
  | c :: r, a => by
    rw [dval_cons]
    have := dval_ge r (10 * a + dv c)
    generalize dval (10 * a + dv c) r = X at *
    omega
def lead0 : List UInt8 → Bool
  | [] => true
  | c :: r => decide (c.toNat = 48) && !r.isEmpty
def numOk (l : List UInt8) : Bool := l.all isD && !lead0 l && decide (dval 0 l ≤ 9223372036854775807)

theorem parseU (l : List UInt8) : ∀ (a : Nat), l.all isD = true → a ≤ 18446744073709551615 → Lib.parseUintM 18446744073709551615 a l = if dval a l ≤ 18446744073709551615 then .ok (dval a l) else .range := by
  induction l with
  | nil => intro a _ ha; unfold Lib.parseUintM; rw [dval_nil, if_pos ha]
  | cons c r ih =>
    intro a hl ha
    simp only [List.all_cons, Bool.and_eq_true] at hl
    have hc := (isD_iff c).mp hl.1
    unfold Lib.parseUintM
    rw [dval_cons]
    rw [if_pos hc]
    have hv := dval_ge r (10 * a + dv c)
    have hd : dv c = c.toNat - 48 := rfl
    by_cases h1 : 1844674407370955162 ≤ a
    · rw [if_pos h1, if_neg (by generalize dval (10 * a + dv c) r = X at *; omega)]
    rw [if_neg h1]
    have e : a * 10 + (c.toNat - 48) = 10 * a + dv c := by rw [hd, Nat.mul_comm]
    rw [e]
    by_cases h2 : 18446744073709551615 < 10 * a + dv c
    · rw [if_pos h2, if_neg (by generalize dval (10 * a + dv c) r = X at *; omega)]
    · rw [if_neg h2, ih _ hl.2 (by omega)]
theorem parseI (c : UInt8) (r : List UInt8) (h : (c :: r).all isD = true) : Lib.parseIntB 64 (c :: r) = if dval 0 (c :: r) ≤ 9223372036854775807 then .ok ((dval 0 (c :: r) : Nat) : Int) else .range := by
  have hc : isD c = true := by simp only [List.all_cons, Bool.and_eq_true] at h; exact h.1
  have hc := (isD_iff c).mp hc
  unfold Lib.parseIntB
  simp only
  rw [if_neg (by omega)]
  unfold Lib.parseUintB
  rw [if_neg (by simp)]
  have e64 : (2 ^ 64 - 1 : Nat) = 18446744073709551615 := by decide
  have e63 : (2 ^ (64 - 1) : Nat) = 9223372036854775808 := by decide
  rw [e64, e63, parseU _ 0 h (by omega)]
  have hn : ¬ c.toNat = 45 := by omega
  generalize dval 0 (c :: r) = X
  by_cases h1 : X ≤ 18446744073709551615
  · rw [if_pos h1]
    simp only
    by_cases h2 : X ≤ 9223372036854775807
    · rw [if_neg (by omega), if_neg (by omega), if_pos h2, if_neg hn]
    · rw [if_pos (by omega), if_neg h2]
  · rw [if_neg h1]
    simp only
    rw [if_neg (by omega)]
theorem dec_snoc {u : Nat} (hu : 1 ≤ u) (c : UInt8) (hc : isD c = true) : Lib.decDigits (10 * u + dv c) = Lib.decDigits u ++ [c] := by
  have h := (isD_iff c).mp hc
  have hd : dv c = c.toNat - 48 := rfl
  rw [Lib.decDigits, dif_neg (by omega)]
  have e1 : (10 * u + dv c) / 10 = u := by omega
  have e2 : (10 * u + dv c) % 10 = dv c := by omega
  rw [e1, e2]
  have e3 : UInt8.ofNat (48 + dv c) = c := by rw [hd, show 48 + (c.toNat - 48) = c.toNat by omega]; simp
  rw [e3]
theorem dec_val : ∀ (r : List UInt8) (u : Nat), 1 ≤ u → r.all isD = true → Lib.decDigits (dval u r) = Lib.decDigits u ++ r
  | [], u, _, _ => by rw [dval_nil, List.append_nil]
  | c :: r, u, hu, hr => by
    simp only [List.all_cons, Bool.and_eq_true] at hr
    rw [dval_cons]
    rw [dec_val r (10 * u + dv c) (by omega) hr.2, dec_snoc hu c hr.1]
    simp
theorem dec_head (u : Nat) : 1 ≤ u → ∀ t, Lib.decDigits u ≠ 48 :: t := by
  induction u using Nat.strongRecOn with
  | ind u ih =>
    intro hu t h
    rw [Lib.decDigits] at h
    split at h
    · injection h with h1 _
      have := congrArg UInt8.toNat h1
      rw [UInt8.toNat_ofNat_of_lt' (by show 48 + u < 256; omega)] at this
      have h48 : (48 : UInt8).toNat = 48 := rfl
      omega
    · rename_i hlt
      cases hx : Lib.decDigits (u / 10) with
      | nil => 
        have := Lib.decDigits_length (u / 10)
        have h2 := Lib.nDigits_pos (u / 10)
        rw [hx] at this; simp at this; omega
      | cons d x =>
        rw [hx] at h
        injection h with h1 _
        subst h1
        exact ih (u / 10) (by omega) (by omega) x hx
theorem itoa_lead (c : UInt8) (r : List UInt8) (h : (c :: r).all isD = true) : decide (Lib.itoa ((dval 0 (c :: r) : Nat) : Int) = c :: r) = !lead0 (c :: r) := by
  have hh := h
  simp only [List.all_cons, Bool.and_eq_true] at h
  have hc := (isD_iff c).mp h.1
  have hi : Lib.itoa ((dval 0 (c :: r) : Nat) : Int) = Lib.decDigits (dval 0 (c :: r)) := by
    unfold Lib.itoa
    rw [if_neg (Int.not_lt.mpr (Int.natCast_nonneg _)), Int.toNat_natCast]
  rw [hi]
  have e0 : dval 0 (c :: r) = dval (dv c) r := by rw [dval_cons, show 10 * 0 + dv c = dv c by omega]
  rw [e0]
  have hd : dv c = c.toNat - 48 := rfl
  have ec : UInt8.ofNat (48 + dv c) = c := by rw [hd, show 48 + (c.toNat - 48) = c.toNat by omega]; simp
  by_cases h0 : c.toNat = 48
  · have hz : dv c = 0 := by omega
    have hc48 : c = 48 := by rw [← ec, hz]; rfl
    unfold lead0
    cases r with
    | nil =>
      have hz : Lib.decDigits (dval (dv c) []) = [c] := by
        rw [dval_nil, Lib.decDigits_one (by omega), ec]
      rw [decide_eq_true hz]; simp
    | cons d r =>
      have : ¬ Lib.decDigits (dval (dv c) (d :: r)) = c :: d :: r := by
        intro hx
        have hx' : Lib.decDigits (dval (dv c) (d :: r)) = 48 :: (d :: r) := hx.trans (by rw [hc48])
        rcases Nat.eq_zero_or_pos (dval (dv c) (d :: r)) with hv | hv
        · rw [hv, Lib.decDigits_one (by omega)] at hx'; simp at hx'
        · exact dec_head _ hv _ hx'
      simp [this, h0]
  · unfold lead0
    rw [dec_val r (dv c) (by omega) h.2, Lib.decDigits_one (by omega), ec]
    simp [h0]

theorem lwhole (hX : LibX X) (s : ByteArray) (hs : s.size ≤ 1048576) (h : (L s).all isD = true) (hne : L s ≠ []) : ∃ v, Does X 120 [vS s] [] (.ret (.tuple [vI v, vB (numOk (L s))]) []) ∧ (numOk (L s) = true → v = ((dval 0 (L s) : Nat) : Int)) := by
  cases hl : L s with
  | nil => exact absurd hl hne
  | cons c r =>
    have hall : (c :: r).all isD = true := by rw [← hl]; exact h
    have hc : isD c = true := by
      simp only [List.all_cons, Bool.and_eq_true] at hall; exact hall.1
    have hp := parseI c r hall
    have hw := hX.wh s c r hl ((isD_iff c).1 hc) (by omega) (by rw [hl, hp]; split <;> simp)
    rw [hl] at hw
    unfold wholeV at hw
    unfold numOk
    by_cases h2 : dval 0 (c :: r) ≤ 9223372036854775807
    · rw [hp, if_pos h2] at hw
      simp only at hw
      rw [itoa_lead c r hall] at hw
      rw [hall, decide_eq_true h2]
      simp only [Bool.true_and, Bool.and_true]
      exact ⟨_, Does.ext hw, fun _ => rfl⟩
    · rw [hp, if_neg h2] at hw
      simp only at hw
      rw [decide_eq_false h2, Bool.and_false]
      exact ⟨_, Does.ext hw, by simp⟩
/-! ### the reference's number -/
def numR (l : List UInt8) : Int × Int := if numOk l = true then (((dval 0 l : Nat) : Int), 0) else (0, 121)
def numV (x : Int × Int) : Out := .ret (.tuple [vI x.1, vI x.2]) []
theorem rnum_arith (a d : Nat) (hd : d ≤ 9) : ((a : Int) > ((9223372036854775807 - (d : Int)) / 10)) ↔ ¬ (10 * a + d ≤ 9223372036854775807) := by omega
theorem u64_id (x : Nat) (h : x ≤ 9223372036854775807) : IntKind.u64.wrap (x : Int) = (x : Int) := by
  simp only [IntKind.wrap, IntKind.bits, IntKind.signed, Bool.false_and, if_false, Bool.false_eq_true]
  omega
abbrev vU (x : Int) : V := .d (.int .u64 x)
set_option maxHeartbeats 4000000 in
theorem rnum_loop (s : ByteArray) (hs : s.size ≤ 1048576) (K : Ex → St → T Out) (O : Int × Int → Out)
    (hE : ∀ a : Nat, a ≤ 9223372036854775807 → Den Tryz.prog tt X (K (.exit 0) ⟨[(4, vU a)], []⟩) (O (a, 0))) (hR : Den Tryz.prog tt X (K .ret ⟨[(2, vI 0), (3, vI 121)], []⟩) (O (0, 121))) :
    ∀ (r : List UInt8) (i a : Nat), (L s).drop i = r → a ≤ 9223372036854775807 → ∀ σ : St, getT σ.t 0 = vS s → getT σ.t 4 = vU a → getT σ.t 5 = vI i →
    Den Tryz.prog tt X (.loop (lp Tryz.f74 0) σ K) (O (if (r.all isD && decide (dval a r ≤ 9223372036854775807)) = true then (((dval a r : Nat) : Int), 0) else (0, 121)))
  | [], i, a, h, ha, σ, g0, g4, g5 => by
    have h1 := drop_none h; rw [L_length] at h1
    refine Den.loopW (G := none) (σ2 := ?s1) (e := .exit 0) ⟨[(0, vS s), (4, vU a), (5, vI i)], []⟩ ⟨[(4, vU a)], []⟩ (by simp) (by simp) ⟨⟨.inl g0.symm, .inl g4.symm, .inl g5.symm, trivial⟩, trivial⟩ ?b1 ?w1 ?k1
    case b1 =>
      refine Den.iteF (by simp; omega) ?_
      exact Den.leaf _
    case w1 => exact ⟨⟨.inl rfl, trivial⟩, trivial⟩
    case k1 =>
      rw [dval_nil, decide_eq_true ha]; exact hE a ha
  | c :: r, i, a, h, ha, σ, g0, g4, g5 => by
    obtain ⟨hb, hi⟩ := bt_drop h
    have wk0 : Wk ⟨[(0, vS s), (4, vU a), (5, vI i)], []⟩ σ := ⟨⟨.inl g0.symm, .inl g4.symm, .inl g5.symm, trivial⟩, trivial⟩
    by_cases hc : isD c = true
    · have hc' := (isD_iff c).mp hc
      have hd9 : dv c ≤ 9 := by unfold dv; omega
      have e1 : IntKind.u64.wrap (IntKind.u8.wrap ((c.toNat : Int) - 48)) = ((dv c : Nat) : Int) := by
        rw [wrapC (by omega) (by omega), show (c.toNat : Int) - 48 = ((dv c : Nat) : Int) by unfold dv; omega, u64_id _ (by omega)]
      have e4 : IntKind.u64.wrap (9223372036854775807 - ((dv c : Nat) : Int)) = 9223372036854775807 - ((dv c : Nat) : Int) := by
        rw [show (9223372036854775807 : Int) - ((dv c : Nat) : Int) = ((9223372036854775807 - dv c : Nat) : Int) by omega, u64_id _ (by omega)]
      have e5 : IntKind.u64.wrap ((9223372036854775807 - ((dv c : Nat) : Int)).tdiv 10) = (9223372036854775807 - ((dv c : Nat) : Int)) / 10 := by
        rw [Int.tdiv_eq_ediv_of_nonneg (by omega), show ((9223372036854775807 : Int) - ((dv c : Nat) : Int)) / 10 = (((9223372036854775807 - dv c) / 10 : Nat) : Int) by omega, u64_id _ (by omega)]
      by_cases hx : 10 * a + dv c ≤ 9223372036854775807
      · refine Den.loopN (G := none) (σ2 := ?s2) _ wk0 ?b2 ?r2
        case b2 =>
          refine Den.iteT (by simp; omega) ?_
          refine Den.asrt (by omega) ?_
          refine Does.use (by rw [hb]; exact rdigit c) ?_
          refine Den.iteF (by simp [hc]) ?_
          refine Den.asrt (by omega) ?_
          refine Den.asrt (by simp) ?_
          refine Den.iteF (by
            rw [hb, e1, e4, e5, decide_eq_false_iff_not]
            exact fun hh => (rnum_arith a _ hd9).mp hh hx) ?_
          exact Den.leaf _
        case r2 =>
          have e : (if ((c :: r).all isD && decide (dval a (c :: r) ≤ 9223372036854775807)) = true then (((dval a (c :: r) : Nat) : Int), (0 : Int)) else (0, 121)) = (if (r.all isD && decide (dval (10 * a + dv c) r ≤ 9223372036854775807)) = true then (((dval (10 * a + dv c) r : Nat) : Int), 0) else (0, 121)) := by
            simp only [List.all_cons, hc, Bool.true_and, dval_cons]
          rw [e]
          refine rnum_loop s hs K O hE hR r (i + 1) (10 * a + dv c) (drop_some h).2.2 hx _ rfl ?_ ?_
          · show vU (IntKind.u64.wrap (IntKind.u64.wrap (10 * (a : Int)) + IntKind.u64.wrap (IntKind.u8.wrap (bt s i - 48)))) = _
            rw [hb, e1, show (10 : Int) * (a : Int) = ((10 * a : Nat) : Int) by omega, u64_id _ (by omega), show ((10 * a : Nat) : Int) + ((dv c : Nat) : Int) = ((10 * a + dv c : Nat) : Int) by omega, u64_id _ hx]
          · show vI (IntKind.i64.wrap ((i : Int) + 1)) = _
            rw [wrapI (by omega) (by omega)]; rfl
      · refine Den.loopW (G := none) (σ2 := ?s3) (e := .ret) _ ⟨[(2, vI 0), (3, vI 121)], []⟩ (by simp) (by simp) wk0 ?b3 ?w3 ?k3
        case b3 =>
          refine Den.iteT (by simp; omega) ?_
          refine Den.asrt (by omega) ?_
          refine Does.use (by rw [hb]; exact rdigit c) ?_
          refine Den.iteF (by simp [hc]) ?_
          refine Den.asrt (by omega) ?_
          refine Den.asrt (by simp) ?_
          refine Den.iteT (by
            rw [hb, e1, e4, e5, decide_eq_true_eq]
            exact (rnum_arith a _ hd9).mpr hx) ?_
          exact Den.leaf _
        case w3 => exact ⟨⟨.inl rfl, .inl rfl, trivial⟩, trivial⟩
        case k3 =>
          have hv := dval_ge r (10 * a + dv c)
          have : ¬ dval a (c :: r) ≤ 9223372036854775807 := by
            rw [dval_cons]; intro hq; exact hx (Nat.le_trans hv hq)
          rw [decide_eq_false this]; simpa using hR
    · refine Den.loopW (G := none) (σ2 := ?s4) (e := .ret) _ ⟨[(2, vI 0), (3, vI 121)], []⟩ (by simp) (by simp) wk0 ?b4 ?w4 ?k4
      case b4 =>
        refine Den.iteT (by simp; omega) ?_
        refine Den.asrt (by omega) ?_
        refine Does.use (by rw [hb]; exact rdigit c) ?_
        refine Den.iteT (by simp [hc]) ?_
        exact Den.leaf _
      case w4 => exact ⟨⟨.inl rfl, .inl rfl, trivial⟩, trivial⟩
      case k4 => simpa [hc] using hR
theorem rnumber (s : ByteArray) (hs : s.size ≤ 1048576) : Does X 74 [vS s] [] (numV (numR (L s))) := by
  refine Does.of Tryz.func74 (by kernel_rfl) ?_
  cases h : L s with
  | nil =>
    have hz : s.size = 0 := by rw [size_eq_L, h]; rfl
    refine Den.iteT (decide_eq_true (by omega)) ?_
    exact Den.leaf' (by simp [numR, numOk, lead0, numV])
  | cons c r =>
    obtain ⟨hb0, hi0⟩ := bt_drop (i := 0) (s := s) (c := c) (r := r) (by simpa using h)
    have hb0 : bt s 0 = (c.toNat : Int) := hb0
    have hsz : s.size = r.length + 1 := by rw [size_eq_L, h]; rfl
    have hgo : lead0 (c :: r) = false → numV (numR (c :: r)) = numV (if ((c :: r).all isD && decide (dval 0 (c :: r) ≤ 9223372036854775807)) = true then (((dval 0 (c :: r) : Nat) : Int), 0) else (0, 121)) := fun hl => by
      unfold numR numOk; rw [hl]; simp
    refine Den.iteF (decide_eq_false (by omega)) ?_
    by_cases h1 : r = []
    · subst h1
      refine Den.iteF (by simp at hsz; simp; omega) ?_
      rw [hgo (by simp [lead0])]
      refine rnum_loop s hs _ numV ?_ ?_ [c] 0 0 (by simpa using h) (by omega) _ rfl rfl rfl
      · intro a ha
        refine Den.leaf' ?_
        rw [wrapI (by omega) (by omega)]; rfl
      · exact Den.leaf _
    · have : 1 ≤ r.length := by cases r with | nil => exact absurd rfl h1 | cons _ _ => simp
      refine Den.iteT (by simp; omega) ?_
      refine Den.asrt (by omega) ?_
      by_cases h2 : c.toNat = 48
      · refine Den.iteT (by rw [hb0]; simp; omega) ?_
        refine Den.leaf' ?_
        have : lead0 (c :: r) = true := by cases r with | nil => exact absurd rfl h1 | cons _ _ => simp [lead0, h2]
        unfold numR numOk; rw [this]; simp [numV]
      · refine Den.iteF (by rw [hb0]; simp; omega) ?_
        rw [hgo (by simp [lead0, h2])]
        refine rnum_loop s hs _ numV ?_ ?_ (c :: r) 0 0 (by simpa using h) (by omega) _ rfl rfl rfl
        · intro a ha
          refine Den.leaf' ?_
          rw [wrapI (by omega) (by omega)]; rfl
        · exact Den.leaf _
end Go.Proofs.YtacfbgfphkfobaaGreatDoor.Id
/-! ## DenTok -/
namespace Go.Proofs.YtacfbgfphkfobaaGreatDoor.Id
open Go
set_option linter.unusedVariables false
set_option linter.unusedSimpArgs false
variable {X : Given}
def headL : List UInt8 → Bool
  | [] => false
  | c :: _ => isL c
/-- kind, length, errno -/
def tokC (c : UInt8) (r : List UInt8) : Nat × Nat × Nat :=
    if isL c = true then
      if 32 < ((c :: r).takeWhile isW).length then (0, 0, 123) else if (c :: r).take ((c :: r).takeWhile isW).length ∈ keyTexts then (4, ((c :: r).takeWhile isW).length, 0) else (1, ((c :: r).takeWhile isW).length, 0)
    else if isD c = true then
      if (numOk ((c :: r).take ((c :: r).takeWhile isD).length) && !headL ((c :: r).drop ((c :: r).takeWhile isD).length)) = true then (2, ((c :: r).takeWhile isD).length, 0) else (0, 0, 121)
    else if c.toNat = 34 then
      match quo r with
      | none => (0, 0, 122)
      | some (t, n) => (3, n, 0)
    else if sgn (c :: r) = 0 then (0, 0, 120) else (5, sgn (c :: r), 0)
def tok : List UInt8 → Nat × Nat × Nat
  | [] => (0, 0, 120)
  | c :: r => tokC c r
theorem tw_le (p : UInt8 → Bool) (l : List UInt8) : (l.takeWhile p).length ≤ l.length := (List.takeWhile_sublist (p := p) (l := l)).length_le
theorem tw_take (p : UInt8 → Bool) (l : List UInt8) : l.take (l.takeWhile p).length = l.takeWhile p := by
  induction l with
  | nil => rfl
  | cons c r ih =>
    rw [List.takeWhile_cons]
    by_cases h : p c = true
    · simp [h, ih]
    · simp [h]
theorem tw_all (p : UInt8 → Bool) (l : List UInt8) : (l.takeWhile p).all p = true := by
  induction l with
  | nil => rfl
  | cons c r ih =>
    rw [List.takeWhile_cons]
    by_cases h : p c = true
    · rw [if_pos h, List.all_cons, h, ih]; rfl
    · simp [h]
theorem ql_le : ∀ (f : Nat) (l t : List UInt8) (m : Nat), ql f l = some (t, m) → 1 ≤ m ∧ m ≤ l.length
  | 0, l, t, m, h => by cases h
  | f + 1, [], t, m, h => by cases h
  | f + 1, c :: r, t, m, h => by
    unfold ql at h
    split at h
    · injection h with h; injection h with _ h; simp; omega
    · split at h
      · cases h
      · rename_i b n hp
        obtain ⟨p1, p2⟩ := pc_pos hp
        split at h
        · cases h
        · rename_i t' m' hq
          have ih := ql_le f _ t' m' hq
          rw [List.length_drop] at ih
          injection h with h; injection h with _ h; omega
theorem quo_le {r t : List UInt8} {n : Nat} (h : quo r = some (t, n)) : 2 ≤ n ∧ n ≤ r.length + 1 := by
  unfold quo at h
  split at h
  · cases h
  · rename_i t' m' hq
    have := ql_le _ _ _ _ hq
    split at h
    · injection h with h; injection h with _ h; omega
    · cases h
theorem sgn_le (c : UInt8) (r : List UInt8) : sgn (c :: r) ≤ r.length + 1 ∧ sgn (c :: r) ≤ 2 := by
  unfold sgn
  by_cases h : (c :: r).take 2 ∈ twoSigns
  · rw [if_pos h]
    have := two_len _ h
    rw [List.length_take, List.length_cons] at this; omega
  · rw [if_neg h]; simp only; split <;> omega
theorem tok_le (l : List UInt8) : (tok l).2.1 ≤ l.length := by
  cases l with
  | nil => exact Nat.zero_le _
  | cons c r =>
    show (tokC c r).2.1 ≤ _
    have h1 := tw_le isW (c :: r)
    have h2 := tw_le isD (c :: r)
    have h3 := (sgn_le c r).1
    unfold tokC
    split
    · split
      · exact Nat.zero_le _
      · split <;> exact h1
    · split
      · split
        · exact h2
        · exact Nat.zero_le _
      · split
        · cases hq : quo r with
          | none => exact Nat.zero_le _
          | some z => obtain ⟨t, n⟩ := z; have := (quo_le hq).2; exact this
        · split
          · exact Nat.zero_le _
          · exact h3
def tokO (x : Nat × Nat × Nat) : Out := .ret (.tuple [vI x.1, vI x.2.1, vI x.2.2]) []
theorem take0 (s : ByteArray) (n : Nat) : L (s.extract 0 (n : Int).toNat) = (L s).take n := by rw [L_extract]; simp
set_option maxHeartbeats 1000000 in
theorem ltoken (hX : LibX X) (s : ByteArray) (hs : s.size ≤ 1048576) (hne : L s ≠ []) : Does X 81 [vS s] [] (tokO (tok (L s))) := by
  refine DoesQ.eq (DoesQ.of Tryz.func81 (by kernel_rfl) ?_)
  cases h : L s with
  | nil => exact absurd h hne
  | cons c r =>
    obtain ⟨hb0, hi0⟩ := bt_drop (i := 0) (s := s) (c := c) (r := r) (by simpa using h)
    have hb0 : bt s 0 = (c.toNat : Int) := hb0
    have hsz : s.size = (c :: r).length := by rw [size_eq_L, h]
    have hd0 : (L s).drop 0 = c :: r := by rw [h]; rfl
    show WP X _ (· = tokO (tokC c r))
    unfold tokC
    refine WP.asrt (by omega) ?_
    refine WP.use1 (by rw [hb0]; exact lletter c) ?_
    by_cases h1 : isL c = true
    · refine WP.iteT h1 ?_
      refine WP.use1 (run_fn s hs 0 (by omega) _ _ lboth) ?_
      rw [if_pos h1, hd0]
      have hle := tw_le isW (c :: r)
      have e0 := take0 s
      rw [h] at e0
      generalize ((c :: r).takeWhile isW).length = n at *
      by_cases h2 : 32 < n
      · refine WP.iteT (by simp; omega) ?_
        exact WP.leaf (by rw [if_pos h2]; rfl)
      refine WP.iteF (by simp; omega) ?_
      refine WP.asrt (by simp only [Option.getD_none, Option.getD_some]; omega) ?_
      refine WP.use1 (lkey _) ?_
      rw [if_neg h2]
      by_cases h3 : (c :: r).take n ∈ keyTexts
      · refine WP.iteT (by show decide (L (s.extract 0 (n : Int).toNat) ∈ keyTexts) = true; rw [e0]; exact decide_eq_true h3) ?_
        exact WP.leaf (by rw [if_pos h3]; rfl)
      · refine WP.iteF (by show decide (L (s.extract 0 (n : Int).toNat) ∈ keyTexts) = false; rw [e0]; exact decide_eq_false h3) ?_
        exact WP.leaf (by rw [if_neg h3]; rfl)
    refine WP.iteF (by simpa using h1) ?_
    refine WP.use1 (by rw [hb0]; exact ldigit c) ?_
    rw [if_neg h1]
    by_cases h2 : isD c = true
    · refine WP.iteT h2 ?_
      refine WP.use1 (run_fn s hs 0 (by omega) _ _ ldigit) ?_
      rw [if_pos h2, hd0]
      have hle := tw_le isD (c :: r)
      have hall := tw_all isD (c :: r)
      have htk := tw_take isD (c :: r)
      have hpos : 1 ≤ ((c :: r).takeWhile isD).length := by rw [List.takeWhile_cons, h2]; simp
      rw [← htk] at hall
      clear htk
      have e0 := take0 s
      rw [h] at e0
      generalize ((c :: r).takeWhile isD).length = n at *
      have hsz0 : (s.extract 0 (n : Int).toNat).size ≤ 1048576 := by rw [size_eq_L, e0, List.length_take]; omega
      have hne0 : L (s.extract 0 (n : Int).toNat) ≠ [] := by rw [e0]; cases n with | zero => omega | succ n => simp
      obtain ⟨v, hw, _⟩ := lwhole hX (s.extract 0 (n : Int).toNat) hsz0 (by rw [e0]; exact hall) hne0
      rw [e0] at hw
      refine WP.asrt (by simp only [Option.getD_none, Option.getD_some]; omega) ?_
      refine WP.use1 hw ?_
      cases hn : numOk ((c :: r).take n) with
      | false =>
        refine WP.iteT (by rfl) ?_
        exact WP.leaf (by simp; rfl)
      | true =>
        refine WP.iteF (by rfl) ?_
        cases hd : (c :: r).drop n with
        | nil =>
          have := drop_none hd
          refine WP.iteF (by simp; omega) ?_
          exact WP.leaf (by simp [headL]; rfl)
        | cons d t =>
          obtain ⟨hbd, hid⟩ := bt_drop (s := s) (i := n) (c := d) (r := t) (by rw [h]; exact hd)
          refine WP.iteT (by simp; omega) ?_
          refine WP.asrt (by omega) ?_
          refine WP.use1 (by rw [hbd]; exact lletter d) ?_
          by_cases h5 : isL d = true
          · refine WP.iteT h5 ?_
            exact WP.leaf (by simp [headL, h5]; rfl)
          · refine WP.iteF (by simpa using h5) ?_
            exact WP.leaf (by simp [headL, h5]; rfl)
    refine WP.iteF (by simpa using h2) ?_
    rw [if_neg h2]
    by_cases h3 : c.toNat = 34
    · refine WP.iteT (by rw [hb0]; simp; omega) ?_
      rw [if_pos h3]
      have hq := lquoted (X := X) s hs
      rw [h] at hq
      simp only [if_pos h3] at hq
      refine WP.use1 hq ?_
      cases hx : quo r with
      | none =>
        refine WP.iteT (by rfl) ?_
        exact WP.leaf rfl
      | some z =>
        obtain ⟨t, n⟩ := z
        have := quo_le hx
        refine WP.iteF (by simp; omega) ?_
        exact WP.leaf rfl
    · refine WP.iteF (by rw [hb0]; simp; omega) ?_
      rw [if_neg h3]
      have hsg := lsign hX s (by rw [h]; simp)
      rw [h] at hsg
      refine WP.use1 hsg ?_
      by_cases h4 : sgn (c :: r) = 0
      · refine WP.iteT (by simp; omega) ?_
        exact WP.leaf (by rw [if_pos h4]; rfl)
      · refine WP.iteF (by simp; omega) ?_
        exact WP.leaf (by rw [if_neg h4]; rfl)
end Go.Proofs.YtacfbgfphkfobaaGreatDoor.Id
/-! ## DenTokR -/
namespace Go.Proofs.YtacfbgfphkfobaaGreatDoor.Id
open Go
set_option linter.unusedVariables false
set_option linter.unusedSimpArgs false
variable {X : Given}
abbrev tokBx : List (Nat × List V) := [(4, [vI 0, vI 0, vI 0])]
/-- where the reference's loops stand -/
abbrev rtSt (s : ByteArray) (a i : Nat) : St := ⟨[(0, vS s), (1, vI a), (4, .box 4 0), (6, vI i)], tokBx⟩
theorem rword_loop (s : ByteArray) (hs : s.size ≤ 1048576) (a : Nat) (K : Ex → St → T Out) (Q : Out → Prop) : ∀ (r : List UInt8) (i : Nat), (L s).drop i = r →
    WP X (K (.exit 1) (rtSt s a (i + (r.takeWhile isW).length))) Q → ∀ σ : St, getT σ.t 0 = vS s → getT σ.t 1 = vI a → getT σ.t 4 = .box 4 0 → getT σ.t 6 = vI i → getB σ.b 4 = some [vI 0, vI 0, vI 0] →
    WP X (.loop (lp Tryz.f42 0) σ K) Q
  | r, i, h, hK, σ, g0, g1, g4, g6, gb => by
    refine WP.round (rtSt s a i) ⟨⟨.inl g0.symm, .inl g1.symm, .inl g4.symm, .inl g6.symm, trivial⟩, ⟨WkB.box gb, trivial⟩⟩ ?_
    cases r with
    | nil =>
      have h1 := drop_none h; rw [L_length] at h1
      refine WP.iteF (by simp; omega) ?_
      exact WP.leaf ⟨rtSt s a i, ⟨⟨.inl rfl, .inl rfl, .inl rfl, .inl rfl, trivial⟩, ⟨WkB.box rfl, trivial⟩⟩, by simpa using hK⟩
    | cons c r =>
      obtain ⟨hb, hi⟩ := bt_drop h
      have hnext : isW c = true → WP X (.loop (lp Tryz.f42 0) ⟨[(0, vS s), (1, vI a), (4, .box 4 0), (6, vI (IntKind.i64.wrap ((i : Int) + 1)))], tokBx⟩ K) Q := fun hw => by
        refine rword_loop s hs a K Q r (i + 1) (drop_some h).2.2 ?_ _ rfl rfl rfl ?_ rfl
        · rw [List.takeWhile_cons, if_pos hw, List.length_cons] at hK
          rw [show i + 1 + (r.takeWhile isW).length = i + ((r.takeWhile isW).length + 1) by omega]; exact hK
        · show vI (IntKind.i64.wrap ((i : Int) + 1)) = _
          rw [wrapI (by omega) (by omega)]; rfl
      have hgo : isW c = true → ∀ σ : St, getT σ.t 0 = vS s → getT σ.t 1 = vI a → getT σ.t 4 = .box 4 0 → getT σ.t 6 = vI (IntKind.i64.wrap ((i : Int) + 1)) → getB σ.b 4 = some [vI 0, vI 0, vI 0] → WP X (.loop (lp Tryz.f42 0) σ K) Q := fun hw σ e0 e1 e4 e6 eb => by
        refine rword_loop s hs a K Q r (i + 1) (drop_some h).2.2 ?_ σ e0 e1 e4 ?_ eb
        · rw [List.takeWhile_cons, if_pos hw, List.length_cons] at hK
          rw [show i + 1 + (r.takeWhile isW).length = i + ((r.takeWhile isW).length + 1) by omega]; exact hK
        · rw [e6, wrapI (by omega) (by omega)]; rfl
      refine WP.iteT (by simp; omega) ?_
      refine WP.asrt (by omega) ?_
      refine WP.use1 (by rw [hb]; exact rletter c) ?_
      by_cases h1 : isL c = true
      · refine WP.iteT h1 ?_
        exact WP.leaf (hgo (by unfold isW; rw [h1]; rfl) _ rfl rfl rfl rfl rfl)
      refine WP.iteF (by simpa using h1) ?_
      refine WP.asrt (by omega) ?_
      refine WP.use1 (by rw [hb]; exact rdigit c) ?_
      by_cases h2 : isD c = true
      · refine WP.iteT h2 ?_
        exact WP.leaf (hgo (by unfold isW; rw [h2]; simp) _ rfl rfl rfl rfl rfl)
      · refine WP.iteF (by simpa using h2) ?_
        refine WP.leaf ⟨rtSt s a i, ⟨⟨.inl rfl, .inl rfl, .inl rfl, .inl rfl, trivial⟩, ⟨WkB.box rfl, trivial⟩⟩, ?_⟩
        rw [List.takeWhile_cons, if_neg (by unfold isW; simp [h1, h2])] at hK
        simpa using hK
theorem rdig_loop (s : ByteArray) (hs : s.size ≤ 1048576) (a : Nat) (K : Ex → St → T Out) (Q : Out → Prop) : ∀ (r : List UInt8) (i : Nat), (L s).drop i = r →
    WP X (K (.exit 3) (rtSt s a (i + (r.takeWhile isD).length))) Q → ∀ σ : St, getT σ.t 0 = vS s → getT σ.t 1 = vI a → getT σ.t 4 = .box 4 0 → getT σ.t 6 = vI i → getB σ.b 4 = some [vI 0, vI 0, vI 0] →
    WP X (.loop (lp Tryz.f42 1) σ K) Q
  | r, i, h, hK, σ, g0, g1, g4, g6, gb => by
    refine WP.round (rtSt s a i) ⟨⟨.inl g0.symm, .inl g1.symm, .inl g4.symm, .inl g6.symm, trivial⟩, ⟨WkB.box gb, trivial⟩⟩ ?_
    cases r with
    | nil =>
      have h1 := drop_none h; rw [L_length] at h1
      refine WP.iteF (by simp; omega) ?_
      exact WP.leaf ⟨rtSt s a i, ⟨⟨.inl rfl, .inl rfl, .inl rfl, .inl rfl, trivial⟩, ⟨WkB.box rfl, trivial⟩⟩, by simpa using hK⟩
    | cons c r =>
      obtain ⟨hb, hi⟩ := bt_drop h
      refine WP.iteT (by simp; omega) ?_
      refine WP.asrt (by omega) ?_
      refine WP.use1 (by rw [hb]; exact rdigit c) ?_
      by_cases h2 : isD c = true
      · refine WP.iteT h2 ?_
        refine WP.leaf (rdig_loop s hs a K Q r (i + 1) (drop_some h).2.2 ?_ _ rfl rfl rfl ?_ rfl)
        · rw [List.takeWhile_cons, if_pos h2, List.length_cons] at hK
          rw [show i + 1 + (r.takeWhile isD).length = i + ((r.takeWhile isD).length + 1) by omega]; exact hK
        · show vI (IntKind.i64.wrap ((i : Int) + 1)) = _
          rw [wrapI (by omega) (by omega)]; rfl
      · refine WP.iteF (by simpa using h2) ?_
        refine WP.leaf ⟨rtSt s a i, ⟨⟨.inl rfl, .inl rfl, .inl rfl, .inl rfl, trivial⟩, ⟨WkB.box rfl, trivial⟩⟩, ?_⟩
        rw [List.takeWhile_cons, if_neg h2] at hK
        simpa using hK
/-- a token and an errno -/
abbrev tkV (k a b e : Int) : Out := .ret (.tuple [.agg [.int .i64 k, .int .i64 a, .int .i64 b], vI e]) []
def tokR (i : Nat) (x : Nat × Nat × Nat) : Int × Int × Int × Int := if x.2.2 = 0 then (x.1, i, ((i + x.2.1 : Nat) : Int), 0) else (0, i, 0, x.2.2)
abbrev tkO (x : Int × Int × Int × Int) : Out := tkV x.1 x.2.1 x.2.2.1 x.2.2.2
set_option maxHeartbeats 2000000 in
theorem rtoken (s : ByteArray) (hs : s.size ≤ 1048576) (i : Nat) (hi : i < s.size) : Does X 42 [vS s, vI i] [] (tkO (tokR i (tok ((L s).drop i)))) := by
  refine DoesQ.eq (DoesQ.of Tryz.func42 (by kernel_rfl) ?_)
  cases h : (L s).drop i with
  | nil => have := drop_none h; rw [L_length] at this; omega
  | cons c r =>
    obtain ⟨hb, _⟩ := bt_drop h
    have hlen : s.size - i = (c :: r).length := by rw [← h, List.length_drop, L_length]
    have ei : ((i : Int)).toNat = i := by omega
    show WP X _ (· = tkO (tokR i (tokC c r)))
    unfold tokC
    refine WP.iteF (by simp; omega) ?_
    refine WP.asrt (by omega) ?_
    refine WP.use1 (by rw [hb]; exact rletter c) ?_
    by_cases h1 : isL c = true
    · refine WP.iteT h1 ?_
      refine rword_loop s hs i _ _ (c :: r) i h ?_ _ rfl rfl rfl rfl rfl
      rw [if_pos h1]
      have hle := tw_le isW (c :: r)
      generalize ((c :: r).takeWhile isW).length = n at *
      have en : (((i + n : Nat) : Int)).toNat = i + n := by omega
      have e0 : L (s.extract i (i + n)) = (c :: r).take n := by rw [L_extract, h, show i + n - i = n by omega]
      have esub : IntKind.i64.wrap (((i + n : Nat) : Int) - (i : Int)) = (n : Int) := by rw [wrapI (by omega) (by omega)]; omega
      by_cases h2 : 32 < n
      · refine WP.iteT (by rw [esub]; simp; omega) ?_
        exact WP.leaf (by rw [if_pos h2]; rfl)
      refine WP.iteF (by rw [esub]; simp; omega) ?_
      refine WP.asrt (by simp only [Option.getD_some]; omega) ?_
      refine WP.use1 (rkey _) ?_
      rw [if_neg h2]
      by_cases h3 : (c :: r).take n ∈ keyTexts
      · refine WP.iteT (by show decide (L (s.extract ((i : Int)).toNat (((i + n : Nat) : Int)).toNat) ∈ keyTexts) = true; rw [ei, en, e0]; exact decide_eq_true h3) ?_
        exact WP.leaf (by rw [if_pos h3]; rfl)
      · refine WP.iteF (by show decide (L (s.extract ((i : Int)).toNat (((i + n : Nat) : Int)).toNat) ∈ keyTexts) = false; rw [ei, en, e0]; exact decide_eq_false h3) ?_
        exact WP.leaf (by rw [if_neg h3]; rfl)
    refine WP.iteF (by simpa using h1) ?_
    refine WP.use1 (by rw [hb]; exact rdigit c) ?_
    rw [if_neg h1]
    by_cases h2 : isD c = true
    · refine WP.iteT h2 ?_
      refine rdig_loop s hs i _ _ (c :: r) i h ?_ _ rfl rfl rfl rfl rfl
      rw [if_pos h2]
      have hle := tw_le isD (c :: r)
      generalize ((c :: r).takeWhile isD).length = n at *
      have en : (((i + n : Nat) : Int)).toNat = i + n := by omega
      have e0 : L (s.extract i (i + n)) = (c :: r).take n := by rw [L_extract, h, show i + n - i = n by omega]
      have hsz0 : (s.extract i (i + n)).size ≤ 1048576 := by rw [size_eq_L, e0, List.length_take]; omega
      have hnum := rnumber (X := X) (s.extract i (i + n)) hsz0
      rw [e0] at hnum
      refine WP.asrt (by simp only [Option.getD_some]; omega) ?_
      refine WP.use1 (show Does X _ [vS (s.extract ((i : Int)).toNat (((i + n : Nat) : Int)).toNat)] [] _ by rw [ei, en]; exact hnum) ?_
      unfold numR
      cases hn : numOk ((c :: r).take n) with
      | false =>
        refine WP.iteT (by simp) ?_
        exact WP.leaf (by simp [tokR])
      | true =>
        refine WP.iteF (by simp) ?_
        cases hd : (c :: r).drop n with
        | nil =>
          have := drop_none hd
          refine WP.iteF (by simp; omega) ?_
          exact WP.leaf (by simp [headL, tokR])
        | cons d t =>
          obtain ⟨hbd, hid⟩ := bt_drop (s := s) (i := i + n) (c := d) (r := t) (by rw [← List.drop_drop, h]; exact hd)
          refine WP.iteT (by simp; omega) ?_
          refine WP.asrt (by omega) ?_
          refine WP.use1 (by rw [hbd]; exact rletter d) ?_
          by_cases h5 : isL d = true
          · refine WP.iteT h5 ?_
            exact WP.leaf (by simp [headL, h5, tokR])
          · refine WP.iteF (by simpa using h5) ?_
            exact WP.leaf (by simp [headL, h5, tokR])
    refine WP.iteF (by simpa using h2) ?_
    rw [if_neg h2]
    by_cases h3 : c.toNat = 34
    · refine WP.iteT (by rw [hb]; simp; omega) ?_
      rw [if_pos h3]
      refine WP.use1 (rquoted s hs i c r h) ?_
      cases hx : quo r with
      | none =>
        refine WP.iteT (by simp) ?_
        exact WP.leaf rfl
      | some z =>
        obtain ⟨t, n⟩ := z
        refine WP.iteF (by simp; omega) ?_
        exact WP.leaf rfl
    · refine WP.iteF (by rw [hb]; simp; omega) ?_
      rw [if_neg h3]
      refine WP.use1 (rsign s hs i c r h) ?_
      have hs2 := (sgn_le c r).2
      by_cases h4 : sgn (c :: r) = 0
      · refine WP.iteT (by simp; omega) ?_
        exact WP.leaf (by rw [if_pos h4]; rfl)
      · refine WP.iteF (by simp; omega) ?_
        refine WP.leaf ?_
        rw [if_neg h4, wrapI (by omega) (by omega)]
        rfl
end Go.Proofs.YtacfbgfphkfobaaGreatDoor.Id
/-! ## DenNext -/
namespace Go.Proofs.YtacfbgfphkfobaaGreatDoor.Id
open Go
set_option linter.unusedVariables false
set_option linter.unusedSimpArgs false
variable {X : Given}
theorem numOk_digit {l : List UInt8} (h : numOk l = true) : l ≠ [] := by
  intro hl; subst hl; simp [numOk, lead0] at h
theorem tok_ok (l : List UInt8) (h : (tok l).2.2 = 0) : 1 ≤ (tok l).2.1 ∧ 1 ≤ (tok l).1 ∧ (tok l).1 ≤ 5 := by
  cases l with
  | nil => simp [tok] at h
  | cons c r =>
    change (tokC c r).2.2 = 0 at h
    show 1 ≤ (tokC c r).2.1 ∧ 1 ≤ (tokC c r).1 ∧ (tokC c r).1 ≤ 5
    have hw : isL c = true → 1 ≤ ((c :: r).takeWhile isW).length := fun h1 => by
      rw [List.takeWhile_cons, if_pos (by unfold isW; rw [h1]; rfl)]; simp
    have hd : isD c = true → 1 ≤ ((c :: r).takeWhile isD).length := fun h1 => by
      rw [List.takeWhile_cons, if_pos h1]; simp
    unfold tokC at h ⊢
    by_cases h1 : isL c = true
    · rw [if_pos h1] at h ⊢
      by_cases h2 : 32 < ((c :: r).takeWhile isW).length
      · rw [if_pos h2] at h; cases h
      rw [if_neg h2] at h ⊢
      by_cases h3 : (c :: r).take ((c :: r).takeWhile isW).length ∈ keyTexts
      · rw [if_pos h3]; exact ⟨hw h1, by simp, by simp⟩
      · rw [if_neg h3]; exact ⟨hw h1, by simp, by simp⟩
    rw [if_neg h1] at h ⊢
    by_cases h2 : isD c = true
    · rw [if_pos h2] at h ⊢
      by_cases h3 : (numOk ((c :: r).take ((c :: r).takeWhile isD).length) && !headL ((c :: r).drop ((c :: r).takeWhile isD).length)) = true
      · rw [if_pos h3]; exact ⟨hd h2, by simp, by simp⟩
      · rw [if_neg h3] at h; cases h
    rw [if_neg h2] at h ⊢
    by_cases h3 : c.toNat = 34
    · rw [if_pos h3] at h ⊢
      cases hq : quo r with
      | none => rw [hq] at h; cases h
      | some z =>
        obtain ⟨t, n⟩ := z
        have := quo_le hq
        exact ⟨by simp only; omega, by simp, by simp⟩
    rw [if_neg h3] at h ⊢
    by_cases h4 : sgn (c :: r) = 0
    · rw [if_pos h4] at h; cases h
    · rw [if_neg h4]; exact ⟨by simp only; omega, by simp, by simp⟩
/-- kind, from, to, errno -/
def nx (l : List UInt8) (i : Nat) : Nat × Nat × Nat × Nat :=
  if i + gapL false (l.drop i) = l.length then (0, l.length, l.length, 0)
  else if (tok (l.drop (i + gapL false (l.drop i)))).2.2 = 0 then ((tok (l.drop (i + gapL false (l.drop i)))).1, i + gapL false (l.drop i), i + gapL false (l.drop i) + (tok (l.drop (i + gapL false (l.drop i)))).2.1, 0)
  else (0, i + gapL false (l.drop i), 0, (tok (l.drop (i + gapL false (l.drop i)))).2.2)
/-- a token that was found: where -/
theorem nx_adv (l : List UInt8) (i : Nat) (hi : i ≤ l.length) (he : (nx l i).2.2.2 = 0) (hk : (nx l i).1 ≠ 0) :
    i ≤ (nx l i).2.1 ∧ (nx l i).2.1 < (nx l i).2.2.1 ∧ (nx l i).2.2.1 ≤ l.length := by
  unfold nx at *
  have hg := gapL_le (l.drop i) false
  rw [List.length_drop] at hg
  generalize hgg : i + gapL false (l.drop i) = g at *
  by_cases h : g = l.length
  · rw [if_pos h] at hk; exact absurd rfl hk
  rw [if_neg h] at he hk ⊢
  by_cases h2 : (tok (l.drop g)).2.2 = 0
  · rw [if_pos h2]
    have := tok_ok _ h2
    have h3 := tok_le (l.drop g)
    rw [List.length_drop] at h3
    simp only
    omega
  · rw [if_neg h2] at hk; exact absurd rfl hk
theorem nx_from (l : List UInt8) (i : Nat) (hi : i ≤ l.length) : (nx l i).2.1 ≤ l.length := by
  unfold nx
  have hg := gapL_le (l.drop i) false
  rw [List.length_drop] at hg
  split
  · exact Nat.le_refl _
  · split <;> (simp only; omega)
def nxI (x : Nat × Nat × Nat × Nat) : Out := tkV x.1 x.2.1 x.2.2.1 x.2.2.2
theorem gap_le (s : ByteArray) (i : Nat) (hi : i ≤ s.size) : i + gapL false ((L s).drop i) ≤ s.size := by
  have := gapL_le ((L s).drop i) false
  rw [List.length_drop, L_length] at this; omega
/-- the next token of a source, by program -/
theorem lnext (hX : LibX X) (s : ByteArray) (hs : s.size ≤ 65536) (i : Nat) (hi : i ≤ s.size) : Does X 46 [vS s, vI i] [] (nxI (nx (L s) i)) := by
  refine DoesQ.eq (DoesQ.of Tryz.func46 (by kernel_rfl) ?_)
  refine WP.iteF (decide_eq_false (by omega)) ?_
  refine WP.iteF (decide_eq_false (by omega)) ?_
  refine WP.iteF (decide_eq_false (by omega)) ?_
  refine WP.use1 (gap_fn hX s (by omega) i hi) ?_
  have hg := gap_le s i hi
  unfold nx
  generalize i + gapL false ((L s).drop i) = g at *
  rw [L_length]
  by_cases h4 : g = s.size
  · refine WP.iteT (decide_eq_true (by omega)) ?_
    rw [if_pos h4]
    exact WP.leaf (by subst h4; rfl)
  refine WP.iteF (decide_eq_false (by omega)) ?_
  rw [if_neg h4]
  have eg : ((g : Int)).toNat = g := by omega
  have e0 : L (s.extract g s.size) = (L s).drop g := by rw [L_extract, List.take_of_length_le]; rw [List.length_drop, L_length]; omega
  have hsz0 : (s.extract g s.size).size ≤ 1048576 := by rw [size_eq_L, e0, List.length_drop, L_length]; omega
  refine WP.asrt (by simp only [Option.getD_none, Option.getD_some]; omega) ?_
  have ht := ltoken hX (s.extract g s.size) hsz0 (by rw [e0]; intro hx; have := drop_none hx; rw [L_length] at this; omega)
  rw [e0] at ht
  refine WP.use1 (show Does X _ [vS (s.extract ((g : Int)).toNat ((s.size : Int)).toNat)] [] _ by rw [eg, show ((s.size : Int)).toNat = s.size by omega]; exact ht) ?_
  have hle : (tok ((L s).drop g)).2.1 ≤ 4000000 := by
    have := tok_le ((L s).drop g)
    rw [List.length_drop, L_length] at this; omega
  generalize tok ((L s).drop g) = x at *
  obtain ⟨x1, x2, x3⟩ := x
  simp only at hle ⊢
  by_cases h5 : x3 = 0
  · refine WP.iteF (by simp [h5]) ?_
    refine WP.leaf ?_
    rw [if_pos h5, wrapI (by dsimp only; omega) (by dsimp only; omega)]
    rfl
  · refine WP.iteT (by simp; omega) ?_
    exact WP.leaf (by rw [if_neg h5]; rfl)
theorem lnext_long (hX : LibX X) (s : ByteArray) (hs : 65536 < s.size) (i : Int) : Does X 46 [vS s, vI i] [] (tkV 0 0 0 3) := by
  refine DoesQ.eq (DoesQ.of Tryz.func46 (by kernel_rfl) ?_)
  refine WP.iteT (decide_eq_true (by omega)) ?_
  exact WP.leaf rfl
theorem rtok_nx (s : ByteArray) (hs : s.size ≤ 1048576) (i : Nat) (hi : i ≤ s.size) : Does X 42 [vS s, vI ((i + gapL false ((L s).drop i) : Nat) : Int)] [] (nxI (nx (L s) i)) := by
  have hg := gap_le s i hi
  unfold nx
  generalize i + gapL false ((L s).drop i) = g at *
  rw [L_length]
  by_cases h4 : g = s.size
  · refine DoesQ.eq (DoesQ.of Tryz.func42 (by kernel_rfl) ?_)
    refine WP.iteT (decide_eq_true (by omega)) ?_
    rw [if_pos h4]
    exact WP.leaf (by subst h4; rfl)
  · have := rtoken (X := X) s hs g (by omega)
    rw [if_neg h4]
    unfold tokR at this
    by_cases h5 : (tok ((L s).drop g)).2.2 = 0
    · rw [if_pos h5] at this ⊢; exact this
    · rw [if_neg h5] at this ⊢; exact this
/-! ### just one token -/
def just (l : List UInt8) (k : Nat) : Bool := decide (l ≠ []) && decide ((tok l).2.2 = 0) && decide ((tok l).1 = k) && decide ((tok l).2.1 = l.length)
theorem ljust (hX : LibX X) (s : ByteArray) (hs : s.size ≤ 1048576) (m : Nat) : Does X 82 [vS s, vI m] [] (.ret (vB (just (L s) m)) []) := by
  refine DoesQ.eq (DoesQ.of Tryz.func82 (by kernel_rfl) ?_)
  unfold just
  by_cases h : L s = []
  · have h0 : s = ⟨#[]⟩ := L_inj h
    refine WP.iteT (decide_eq_true h0) ?_
    exact WP.leaf (by rw [h]; simp)
  have h0 : ¬ s = ⟨#[]⟩ := fun e => h (by rw [e])
  refine WP.iteF (decide_eq_false h0) ?_
  refine WP.use1 (ltoken hX s hs h) ?_
  rw [L_length]
  generalize tok (L s) = x
  obtain ⟨x1, x2, x3⟩ := x
  simp only
  by_cases h1 : x3 = 0
  · refine WP.iteT (decide_eq_true (by dsimp only; omega)) ?_
    by_cases h2 : x1 = m
    · refine WP.iteT (decide_eq_true (by dsimp only; omega)) ?_
      refine WP.leaf ?_
      rw [decide_eq_true h, decide_eq_true h1, decide_eq_true h2]
      have : ((x2 : Int) = (s.size : Int)) ↔ x2 = s.size := by omega
      simp [this]
    · refine WP.iteF (decide_eq_false (by dsimp only; omega)) ?_
      exact WP.leaf (by simp [h2])
  · refine WP.iteF (decide_eq_false (by dsimp only; omega)) ?_
    exact WP.leaf (by simp [h1])
def isWord (s : ByteArray) : Bool := just (L s) 1
theorem lword (hX : LibX X) (s : ByteArray) (hs : s.size ≤ 1048576) : Does X 47 [vS s] [] (.ret (vB (isWord s)) []) := by
  refine DoesQ.eq (DoesQ.of Tryz.func47 (by kernel_rfl) ?_)
  refine WP.use1 (ljust hX s hs 1) ?_
  exact WP.leaf rfl
end Go.Proofs.YtacfbgfphkfobaaGreatDoor.Id
