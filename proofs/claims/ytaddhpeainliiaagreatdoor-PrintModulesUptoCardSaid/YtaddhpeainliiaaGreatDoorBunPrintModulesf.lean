/- Texts of this repo, bundled: PaRead, PaReadB, PaReadC, PaTop, PaTopB, PaFed, PaEnd, PaOut, DenExt, DenApp, PaCut, PaNx, PaFirst, PaFuel, PaAwake, PaAwakeB, PaRightA, PaRightD, PaRightF, PrA. -/
import Derived.Test.YtaddhpeainliiaaGreatDoorBunPrintModulese
import Derived.Tactics2
import Derived.Defers
import Derived.Recover
/-! ## PaRead -/
namespace Go.Proofs.YtaddhpeainliiaaGreatDoor.Id
open Go
set_option linter.unusedVariables false
set_option linter.unusedSimpArgs false
section
variable {I : World → Prop} {B0 : Nat} {M : Nat → Prop} {X : Given} {x : Aux} {w : World}
theorem wpOps_val {P : Program} {ops : Array Oper} {Q : Exit → Act → World → Prop} {i : Nat} {rest : List Nat} {o : Oper} {v : Value} {a : Act} {w w' : World} (ho : ops[i]? = some o) (hg : o.guard = none) (hr : (execOp a.eval o).run P w = .ok (.value v) w') (h : wpOps P ops Q rest (a.put o.dst v) w') : wpOps P ops Q (i :: rest) a w := by
  simp only [wpOps, ho]
  rw [if_pos (by simp [Region.wanted, hg])]
  refine .inl ?_
  unfold Oper.wp
  rw [hr]; exact h
theorem wpOps_defer {P : Program} {ops : Array Oper} {Q : Exit → Act → World → Prop} {i : Nat} {rest : List Nat} {o : Oper} {d : Deferred} {a : Act} {w w' : World} (ho : ops[i]? = some o) (hg : o.guard = none) (hr : (execOp a.eval o).run P w = .ok (.defer d) w') (h : wpOps P ops Q rest ({ a with defers := d :: a.defers }.put o.dst undef) w') : wpOps P ops Q (i :: rest) a w := by
  simp only [wpOps, ho]
  rw [if_pos (by simp [Region.wanted, hg])]
  refine .inl ?_
  unfold Oper.wp
  rw [hr]; exact h
def codeOf (f : Func) : Code := f.body.getD .skip
def seqL : Code → Code
  | .seq a _ => a
  | c => c
def seqR : Code → Code
  | .seq _ b => b
  | c => c
def opsOf : Code → Array Oper
  | .region _ ops _ => ops
  | _ => #[]
noncomputable abbrev cau1 : Code := seqL (seqR (codeOf Tryz.f87))
noncomputable abbrev cau2 : Code := seqR (seqR (codeOf Tryz.f87))
theorem Sim.put [Ds] {nt : Nat} {t : Tmps} {b : Boxes} {a : Act} {d : Nat} {u : V} {v : Value} (S : Sim I B0 M nt x t b a w) (hd : d < nt) (hv : RepV x u v) : Sim I B0 M nt x ((d, u) :: t) b (a.put (some d) v) w :=
  Sim.eff (scr := []) (drp := []) (dst := some d) S (fun i => rfl) (fun _ _ _ h => h) (fun _ _ => rfl) (fun _ _ => rfl) (fun _ h => h) (fun d' h => by cases h; exact hd) (fun _ => hv) S.ws
theorem put_eval {a : Act} {d : Nat} {v : Value} (h : d < a.tmps.size) : (a.put (some d) v).eval (.tmp d) = v := by
  show (a.tmps.setIfInBounds d v).getD d undef = v
  simp [h]
theorem Sim.less [Ds] {nt : Nat} {t t' : Tmps} {b b' : Boxes} {a : Act} (S : Sim I B0 M nt x t b a w) (ht : ∀ i, getT t' i = .undef ∨ getT t' i = getT t i) (hb : ∀ j cs, getB b' j = some cs → getB b j = some cs) : Sim I B0 M nt x t' b' a w :=
  ⟨fun i => by rcases ht i with h | h <;> rw [h]; trivial; exact S.tm i, S.sz, S.df, S.ws.weak fun j cs h => ⟨cs, hb j cs h, fun _ h => h⟩⟩
theorem caught_r1 (hm : Tryz.prog.follows .mixedOrders = true) (hI : Stable I B0) (hX : GivenOK Tryz.prog X I B0) {a0 : Act} {a b e q : Int} (S0 : Sim I B0 M 19 x [(0, .box base 0), (2, stopV e q)] [(base, [vI a, vI b])] a0 w) (hv2 : a0.eval (.tmp 2) = .iface 169 (.agg #[.int .i64 e, .int .i64 q])) :
    cau1.wp Tryz.prog (Behind I B0 M 19 x w .normal ⟨[(4, .lit true), (3, .box 3 0), (0, .box base 0)], [(3, [vI e, vI q]), (base, [vI a, vI b])]⟩) a0 w := by
  have hB := below_all hm tt_ok hI hX 0
  have hdd : ∀ o ∈ (opsOf cau1).toList, ∀ d, o.dst = some d → d < 19 := fun o ho d hd => by
    have h0 : ((opsOf cau1).toList.all fun o => match o.dst with | some d => Nat.blt d 19 | none => true) = true := by kernel_rfl
    have := List.all_eq_true.1 h0 o ho
    rw [hd] at this
    exact Nat.le_of_ble_eq_true this
  have key : ∃ σ : St, getT σ.t 4 = .lit true ∧ getT σ.t 3 = .box 3 0 ∧ getT σ.t 0 = .box base 0 ∧ getB σ.b 3 = some [vI e, vI q] ∧ getB σ.b base = some [vI a, vI b] ∧ cau1.wp Tryz.prog (Behind I B0 M 19 x w .normal σ) a0 w := by
    refine ⟨?s, ?h1, ?h2, ?h3, ?h4, ?h5, wp_region ?hw⟩
    case hw =>
      show wpOps _ _ _ (0 :: 1 :: List.range' 2 6) _ _
      refine wpOps_val (v := .iface 169 (.agg #[.int .i64 e, .int .i64 q])) (w' := w) rfl rfl ?_ ?_
      · show (execOp a0.eval _).run _ w = _
        rw [← hv2]; rfl
      · have S1 := S0.put (d := 7) (u := stopV e q) (v := .iface 169 (.agg #[.int .i64 e, .int .i64 q])) (by omega) ⟨_, rfl, #[.int .i64 e, .int .i64 q], rfl, _, _, rfl, .int _ _, _, _, rfl, .int _ _, rfl⟩
        have hp := put_eval (a := a0) (d := 7) (v := .iface 169 (.agg #[.int .i64 e, .int .i64 q])) (by rw [S0.sz]; omega)
        refine wpOps_val (v := .tuple #[.agg #[.int .i64 e, .int .i64 q], .bool true]) (w' := w) rfl rfl ?_ ?_
        · show ((fun v => Next.value v) <$> Instr.typeAssert ((a0.put (some 7) (.iface 169 (.agg #[.int .i64 e, .int .i64 q]))).eval (.tmp 7)) 20 169 true).run _ w = _
          rw [hp]
          simp [Instr.typeAssert, go_sem, Tryz.underlying104]
        · have S2 := S1.put (d := 8) (u := .tuple [.agg [cZ e, cZ q], .lit true]) (v := .tuple #[.agg #[.int .i64 e, .int .i64 q], .bool true]) (by omega) ⟨_, rfl, _, _, rfl, ⟨#[.int .i64 e, .int .i64 q], rfl, _, _, rfl, .int _ _, _, _, rfl, .int _ _, rfl⟩, _, _, rfl, rfl, rfl⟩
          refine evOps_ok tt_ok hI hX hB (by decide) hdd ((opsOf cau1).toList.drop 2) 2 x _ _ _ w rfl (Ext.refl _ _) S2 ?_
          exact DenN.leaf _
    case h1 => rfl
    case h2 => rfl
    case h3 => rfl
    case h4 => rfl
    case h5 => rfl
  obtain ⟨σ, h1, h2, h3, h4, h5, hw⟩ := key
  refine wp_mono hw fun en a1 w1 hb => ?_
  obtain ⟨rfl, x', hE, S'⟩ := hb.normal
  have S'' : Sim I B0 M 19 x' [(4, .lit true), (3, .box 3 0), (0, .box base 0)] [(3, [vI e, vI q]), (base, [vI a, vI b])] a1 w1 := by
    refine S'.less (fun i => ?_) (fun j cs hj => ?_)
    · rw [getT_put, getT_put, getT_put]
      split
      · rename_i e; subst e; exact .inr h1.symm
      · split
        · rename_i e; subst e; exact .inr h2.symm
        · split
          · rename_i e; subst e; exact .inr h3.symm
          · exact .inl rfl
    · simp only [getB] at hj
      split at hj
      · rename_i e; rw [← Nat.eq_of_beq_eq_true e]; cases hj; exact h4
      · split at hj
        · rename_i e; rw [← Nat.eq_of_beq_eq_true e]; cases hj; exact h5
        · cases hj
  exact ⟨x', rfl, hE, S''.df, S''.ws, fun _ => S''⟩
theorem caught_rest (hm : Tryz.prog.follows .mixedOrders = true) (hI : Stable I B0) (hX : GivenOK Tryz.prog X I B0) {a0 : Act} {a b e q : Int} (S0 : Sim I B0 M 19 x [(0, .box base 0), (2, stopV e q)] [(base, [vI a, vI b])] a0 w) (hv2 : a0.eval (.tmp 2) = .iface 169 (.agg #[.int .i64 e, .int .i64 q])) :
    (seqR (codeOf Tryz.f87)).wp Tryz.prog (Behind I B0 M 19 x w .normal ⟨[], [(base, [vI e, vI q])]⟩) a0 w := by
  have hB := below_all hm tt_ok hI hX 0
  refine wp_seq (wp_mono (caught_r1 hm hI hX S0 hv2) fun en a1 w1 hb => ?_)
  obtain ⟨rfl, x', hE, S'⟩ := hb.normal
  have key : ∃ σ : St, getB σ.b base = some [vI e, vI q] ∧ cau2.wp Tryz.prog (Behind I B0 M 19 x' w1 .normal σ) a1 w1 := by
    refine ⟨?s, ?h1, ?hw⟩
    case hw =>
      refine evCode_ok hm tt_ok hI hX (by decide) 0 hB cau2 (by kernel_rfl) (fun h => by cases h) none x' _ _ a1 w1 .normal _ S' ?_
      exact DenN.leaf _
    case h1 => rfl
  obtain ⟨σ, h1, hw⟩ := key
  refine wp_mono hw fun en a2 w2 hb => ?_
  obtain ⟨rfl, x2, hE2, S2⟩ := hb.normal
  have S3 : Sim I B0 M 19 x2 [] [(base, [vI e, vI q])] a2 w2 := S2.less (fun i => .inl rfl) fun j cs hj => by
    simp only [getB] at hj
    split at hj
    · rename_i e; rw [← Nat.eq_of_beq_eq_true e]; cases hj; exact h1
    · cases hj
  exact ⟨x2, rfl, hE.trans hE2, S3.df, S3.ws, fun _ => S3⟩
theorem caught_pan (hm : Tryz.prog.follows .mixedOrders = true) (hI : Stable I B0) (hX : GivenOK Tryz.prog X I B0) {vs : Array Value} {a b e q : Int} (hargs : RepVs x [.box base 0] vs.toList) (S : WSim I B0 M x [(base, [vI a, vI b])] w) :
    CallsD Tryz.prog 87 vs (.panicking [{ v := .iface 169 (.agg #[.int .i64 e, .int .i64 q]), recovered := false }]) w fun en u' w' =>
      en = .returned (.tuple #[]) ∧ u' = .panicking [{ v := .iface 169 (.agg #[.int .i64 e, .int .i64 q]), recovered := true }] ∧ ∃ x', Ext M x w x' w' ∧ WSim I B0 M x' [(base, [vI e, vI q])] w' := by
  obtain ⟨v, l, hl, hv, hnil⟩ := hargs
  have hnil' : l = [] := hnil
  subst hnil'
  have hv' : v = .pointer (some ⟨x.ρ base, 0, none⟩) := hv
  obtain rfl : vs = #[v] := by cases vs; simp_all
  subst hv'
  refine callsD_of_wpS Tryz.func87 rfl fun c₀ cs hu => ?_
  apply wpS_seq
  apply wpS_region
  simp [wpOpsS, go_sem, recoverD, hu, Tryz.ntmps87, Exit.thenS]
  refine wpS_of_wp ?_
  refine wp_mono (caught_rest hm hI hX (a := a) (b := b) (e := e) (q := q) ⟨fun i => ?_, by simp, rfl, S⟩ (by simp [Act.eval])) fun en a1 w1 hb => ?_
  · match i with
    | 0 =>
      rw [Array.getD_eq_getD_getElem?]
      simp
      exact rfl
    | 1 => trivial
    | 2 =>
      rw [Array.getD_eq_getD_getElem?]
      simp
      exact ⟨_, rfl, #[.int .i64 e, .int .i64 q], rfl, _, _, rfl, .int _ _, _, _, rfl, .int _ _, rfl⟩
    | n + 3 => trivial
  · obtain ⟨rfl, x', hE, S'⟩ := hb.normal
    simp [bodyPostS, results, Tryz.results87, go_sem]
    exact ⟨S'.df, x', hE, S'.ws⟩
/-- what the caught call without a panic leaves -/
theorem caught_idle (hI : Stable I B0) {vs : Array Value} {b : Boxes} (hargs : RepVs x [.box base 0] vs.toList) (S : WSim I B0 M x b w) :
    CallsD Tryz.prog 87 vs .returning w fun en u' w' =>
      en = .returned (.tuple #[]) ∧ u' = .returning ∧ ∃ x', Ext M x w x' w' ∧ WSim I B0 M x' b w' := by
  obtain ⟨v, l, hl, hv, hnil⟩ := hargs
  have hnil' : l = [] := hnil
  subst hnil'
  have hv' : v = .pointer (some ⟨x.ρ base, 0, none⟩) := hv
  obtain rfl : vs = #[v] := by cases vs; simp_all
  subst hv'
  refine callsD_of_wpS Tryz.func87 rfl fun c₀ cs hu => ?_
  apply wpS_seq
  apply wpS_region
  simp [wpOpsS, go_sem, recoverD, hu, Tryz.ntmps87, Exit.thenS]
  refine wpS_of_wp ?_
  refine wp_seq (wp_region ?_)
  simp [wpOps, go_sem, Exit.then, Instr.typeAssert, Tryz.underlying104]
  iterate 8 refine .inl ?_
  refine wp_seq (wp_region ?_)
  simp [wpOps, go_sem, Exit.then]
  refine .inl ?_
  refine wp_cond_false (by simp [Act.eval]) ?_
  refine wp_seq (wp_region ?_)
  simp [wpOps, go_sem, Exit.then]
  refine .inl (.inl ?_)
  refine wp_cond_false (by simp [Act.eval]) ?_
  refine wp_skip ?_
  simp [bodyPostS, results, Tryz.results87, go_sem]
  refine ⟨.returning, ?_, rfl, x, ⟨rfl, rfl, rfl, by show _ ≤ (w.heap.push _).size; simp, fun k hk => ?_, fun _ _ _ h => h, fun _ _ => rfl, fun _ _ => rfl, fun _ h => h⟩, S.push hI (o := .cells #[.int .i64 0, .int .i64 0] 169) rfl⟩
  · cases c₀; simp_all
  · have : k < w.heap.size := Nat.lt_of_not_le fun h => hk (S.top k h)
    exact push_lt this
/-- what the result taken is laid as, on the way out -/
theorem read1_does (hX : LibX X) (s : ByteArray) (F T k a b : Int) (z : ByteArray) (d q : Int) : Does X 86 [.box base 0, .box (base + 1) 0] [[.box (base + 2) 0], [vI q], rd s F T k a b z d] (.ret (.tuple []) [[.box (base + 2) 0], [vI T], rd s F T k a b z d]) := by
  refine DoesQ.eq (DoesQ.of Tryz.func86 (by kernel_rfl) ?_)
  exact WP.leaf rfl
end
end Go.Proofs.YtaddhpeainliiaaGreatDoor.Id
/-! ## PaReadB -/
namespace Go.Proofs.YtaddhpeainliiaaGreatDoor.Id
open Go
set_option linter.unusedVariables false
set_option linter.unusedSimpArgs false
section
variable {I : World → Prop} {B0 : Nat} {M : Nat → Prop} {X : Given} {x : Aux} {w : World} {b : Boxes}
abbrev idF (ids : List Nat) : Nat → Option Nat := fun i => (posOf i ids 0).map (base + ·)
theorem callee_args (S : WSim I B0 M x b w) {ids : List Nat} (hnd : ids.Nodup) {bx : List (List V)} (hin : boxesIn (getB b) (idF ids) ids 0 = some bx) {args : List V} {l : List Value} (h : RepNs x args l) : RepVs (calleeAux x b ids) (normVs (rens (idF ids) args)) l := by
  obtain ⟨S2, hren⟩ := callee_in S hnd hin
  refine normVs_rep ?_
  have : ∀ (us : List V) (l : List Value), RepNs x us l → RepNs (calleeAux x b ids) (rens (idF ids) us) l := by
    intro us
    induction us with
    | nil => intro l r; exact r
    | cons u us ih => intro l ⟨v, vs, e, p, q⟩; exact ⟨v, vs, e, hren u v p, ih vs q⟩
  exact this _ _ h
/-- what a deferred call leaves, seen from its caller -/
theorem outD (S : WSim I B0 M x b w) (hI : Stable I B0) {ids : List Nat} (hnd : ids.Nodup) {bx : List (List V)} (hin : boxesIn (getB b) (idF ids) ids 0 = some bx) {bx' : List (List V)} {wr : Boxes} (hout : boxesOut ids ids 0 bx' = some wr)
    {P : Program} {f : FuncId} {vs : Array Value} {u : FrameMode} {R : Ending → FrameMode → Prop}
    (h : CallsD P f vs u w fun en u' w' => R en u' ∧ ∃ x', Ext (calleeMay x b ids w) (calleeAux x b ids) w x' w' ∧ WSim I B0 (calleeMay x b ids w) x' (number base bx' 0) w') :
    CallsD P f vs u w fun en u' w' => R en u' ∧ ∃ x', EffOK I B0 M x b { v := .undef, wr := wr, scr := catK (allToks (boxesAt (getB b) ids)) (allToks wr) } w undef x' w' :=
  h.mono fun en u' w' ⟨hr, x', hE, S'⟩ => ⟨hr, _, callee_out S hI hnd hin hE S' hout (u := .undef) (v := undef) rfl trivial⟩
theorem Sim.after [Ds] {nt : Nat} {x' : Aux} {w' : World} {t : Tmps} {a : Act} {wr : Boxes} {v : Value} (S : Sim I B0 M nt x t b a w) (hE : EffOK I B0 M x b { v := .undef, wr := wr, scr := [] } w v x' w') : Sim I B0 M nt x' t (catB wr b) a w' :=
  ⟨fun i => by have := (S.tm i).clean hE.sub hE.ρ hE.z hE.u; rwa [cleanV_nil] at this, S.sz, S.df, hE.ws b fun i => by
    cases getB b i with
    | none => rfl
    | some cs => exact congrArg some (cleanVs_nil cs).symm⟩
/-- a function that the ideal machine brings to its end, as a deferred call -/
theorem bodyD (hm : Tryz.prog.follows .mixedOrders = true) (hI : Stable I B0) (hX : GivenOK Tryz.prog X I B0) {f : FuncId} {fn : Func} {args : List V} {bx bx' : List (List V)} (hf : Tryz.prog.funcs[f]? = some fn) (h : Den Tryz.prog tt X (evBody tt none fn args bx) (.ret (.tuple []) bx')) {vs : Array Value} (hargs : RepVs x args vs.toList) (S : WSim I B0 M x (number base bx 0) w) (u : FrameMode) :
    CallsD Tryz.prog f vs u w fun en u' w' => (en = .returned (.tuple #[]) ∧ u' = u) ∧ ∃ x', Ext M x w x' w' ∧ WSim I B0 M x' (number base bx' 0) w' := by
  obtain ⟨n, h⟩ := h
  obtain ⟨c, hc, hw⟩ := body_wp hm tt_ok hI hX (below_all hm tt_ok hI hX n) hf h hargs S
  refine (callsD_of_wp hf hc hw).mono fun en u' w' ⟨hu, x', hE, rv, he, hr, S'⟩ => ?_
  obtain ⟨l, rfl, hl⟩ := hr
  have : l = #[] := by
    have hl' : l.toList = [] := hl
    exact Array.toList_eq_nil_iff.1 hl'
  subst this
  exact ⟨⟨he, hu⟩, x', hE, S'⟩
theorem read1_den (s : ByteArray) (F T k a b : Int) (z : ByteArray) (d q : Int) : Den Tryz.prog tt X (evBody tt none Tryz.f86 [.box base 0, .box (base + 1) 0] [[.box (base + 2) 0], [vI q], rd s F T k a b z d]) (.ret (.tuple []) [[.box (base + 2) 0], [vI T], rd s F T k a b z d]) := by
  have h : WP X (evBody tt none Tryz.f86 [.box base 0, .box (base + 1) 0] [[.box (base + 2) 0], [vI q], rd s F T k a b z d]) (· = .ret (.tuple []) [[.box (base + 2) 0], [vI T], rd s F T k a b z d]) := WP.leaf rfl
  obtain ⟨_, rfl, h⟩ := h
  exact h
/-- the boxes of parse.read -/
abbrev rdB (z e q : Int) (r cs : List V) : Boxes := [(base, cs), (base + 1, [vI z]), (base + 2, [vI e, vI q]), (base + 3, [.box (base + 4) 0]), (base + 4, r)]
abbrev d1 (x : Aux) : Deferred := { target := .fn (.func 86) #[.pointer (some ⟨x.ρ (base + 3), 0, none⟩), .pointer (some ⟨x.ρ (base + 1), 0, none⟩)], args := #[] }
abbrev d2 (x : Aux) : Deferred := { target := .fn (.func 87) #[], args := #[.pointer (some ⟨x.ρ (base + 2), 0, none⟩)] }
theorem read_leave1 (hm : Tryz.prog.follows .mixedOrders = true) (hI : Stable I B0) (hX : GivenOK Tryz.prog X I B0) [Ds] {x0 : Aux} {w0 : World} (hE0 : Ext M x0 w0 x w) {R : Ending → World → Prop} {s : ByteArray} {F T k a b d z e q : Int} {y : ByteArray} {cs : List V} {t : Tmps} {act : Act} (h6 : getT t 6 = .box (base + 1) 0) (h7 : getT t 7 = .box (base + 2) 0)
    (S : Sim I B0 M 37 x t (rdB z e q (rd s F T k a b y d) cs) act w) {x1 : Aux} (hx1 : ∀ i, base ≤ i → x1.ρ i = x.ρ i)
    (hR : ∀ x' w' rv, Ext M x0 w0 x' w' → RepN x' (.tuple [vI T, .agg [cZ e, cZ q]]) rv → WSim I B0 M x' (rdB T e q (rd s F T k a b y d) cs) w' → R (.returned rv) w') :
    Leaves Tryz.prog Tryz.f57 act.tmps R [d1 x1] .returning w := by
  refine leaves_cons (f := 86) (args := #[.pointer (some ⟨x1.ρ (base + 3), 0, none⟩), .pointer (some ⟨x1.ρ (base + 1), 0, none⟩)]) (by simp) (by simp [go_sem]) ?_
  rw [hx1 (base + 3) (by omega), hx1 (base + 1) (by omega)]
  have hin : boxesIn (getB (rdB z e q (rd s F T k a b y d) cs)) (idF [base + 3, base + 1, base + 4]) [base + 3, base + 1, base + 4] 0 = some [[.box (base + 2) 0], [vI z], rd s F T k a b y d] := rfl
  refine (outD S.ws hI (by simp) hin (bx' := [[.box (base + 2) 0], [vI T], rd s F T k a b y d]) (wr := [(base + 3, [.box (base + 4) 0]), (base + 1, [vI T]), (base + 4, rd s F T k a b y d)]) rfl (bodyD hm hI hX Tryz.func86 (read1_den s F T k a b y d z) (callee_args S.ws (by simp) hin (args := [.box (base + 3) 0, .box (base + 1) 0]) ⟨_, _, rfl, rfl, _, _, rfl, rfl, rfl⟩) (callee_in S.ws (by simp) hin).1 .returning)).mono ?_
  rintro en u' w' ⟨⟨rfl, rfl⟩, x', hE⟩
  have S' := S.after hE
  have S2 : Sim I B0 M 37 x' [(6, .box (base + 1) 0), (7, .box (base + 2) 0)] (rdB T e q (rd s F T k a b y d) cs) act w' := S'.less (fun i => by
    rw [getT_put, getT_put]
    split
    · rename_i e9; subst e9; exact .inr h6.symm
    · split
      · rename_i e9; subst e9; exact .inr h7.symm
      · exact .inl rfl) (fun j cs' hj => by
    simp only [rdB, catB, getB] at hj ⊢
    split at hj
    · rename_i e9; first | exact hj | (rw [← Nat.eq_of_beq_eq_true e9]; exact hj)
    · split at hj
      · rename_i e9; first | exact hj | (rw [← Nat.eq_of_beq_eq_true e9]; exact hj)
      · split at hj
        · rename_i e9; first | exact hj | (rw [← Nat.eq_of_beq_eq_true e9]; exact hj)
        · split at hj
          · rename_i e9; first | exact hj | (rw [← Nat.eq_of_beq_eq_true e9]; exact hj)
          · split at hj
            · rename_i e9; first | exact hj | (rw [← Nat.eq_of_beq_eq_true e9]; exact hj)
            · cases hj)
  obtain ⟨rvs, k1, k2⟩ := resAll_rep (P := Tryz.prog) (σ := ⟨[(6, .box (base + 1) 0), (7, .box (base + 2) 0)], rdB T e q (rd s F T k a b y d) cs⟩) tt_ok S2 (rs := Tryz.f57.results.toList) (us := [vI T, .agg [cZ e, cZ q]]) rfl
  exact ⟨_, results_eq _ _ _ k1, hR x' w' _ (hE0.trans hE.ext) (oneRes_rep k2) S2.ws⟩
/-- on the way out without a panic -/
theorem read_leaveI (hm : Tryz.prog.follows .mixedOrders = true) (hI : Stable I B0) (hX : GivenOK Tryz.prog X I B0) [Ds] {x0 : Aux} {w0 : World} (hE0 : Ext M x0 w0 x w) {R : Ending → World → Prop} {s : ByteArray} {F T k a b d z e q : Int} {y : ByteArray} {cs : List V} {t : Tmps} {act : Act} (h6 : getT t 6 = .box (base + 1) 0) (h7 : getT t 7 = .box (base + 2) 0)
    (S : Sim I B0 M 37 x t (rdB z e q (rd s F T k a b y d) cs) act w) {x1 : Aux} (hx1 : ∀ i, base ≤ i → x1.ρ i = x.ρ i)
    (hR : ∀ x' w' rv, Ext M x0 w0 x' w' → RepN x' (.tuple [vI T, .agg [cZ e, cZ q]]) rv → WSim I B0 M x' (rdB T e q (rd s F T k a b y d) cs) w' → R (.returned rv) w') :
    Leaves Tryz.prog Tryz.f57 act.tmps R [d2 x1, d1 x1] .returning w := by
  refine leaves_cons (f := 87) (args := #[.pointer (some ⟨x1.ρ (base + 2), 0, none⟩)]) (by simp) (by simp [go_sem]) ?_
  rw [hx1 (base + 2) (by omega)]
  have hin : boxesIn (getB (rdB z e q (rd s F T k a b y d) cs)) (idF [base + 2]) [base + 2] 0 = some [[vI e, vI q]] := rfl
  have C := caught_idle (vs := #[.pointer (some ⟨x.ρ (base + 2), 0, none⟩)]) hI (callee_args S.ws (by simp) hin (args := [.box (base + 2) 0]) ⟨_, _, rfl, rfl, rfl⟩) (callee_in S.ws (by simp) hin).1
  refine (outD S.ws hI (by simp) hin (bx' := [[vI e, vI q]]) (wr := [(base + 2, [vI e, vI q])]) rfl (R := fun en u' => en = .returned (.tuple #[]) ∧ u' = .returning) (C.mono fun en u' w' ⟨h1, h2, h3⟩ => ⟨⟨h1, h2⟩, h3⟩)).mono ?_
  rintro en u' w' ⟨⟨rfl, rfl⟩, x', hE⟩
  refine read_leave1 hm hI hX (hE0.trans hE.ext) h6 h7 (z := z) (k := k) (a := a) (b := b) (y := y) (d := d) (s := s) (F := F) ((S.after hE).less (fun i => .inr rfl) fun j cs' hj => ?_) (fun i hi => (hx1 i hi).trans (hE.ρ i (by simp)).symm) hR
  rw [← hj]
  simp only [rdB, catB, getB]
  split
  · rename_i e9; rw [← Nat.eq_of_beq_eq_true e9]; rfl
  · rfl
/-- on the way out of a panic -/
theorem read_leaveP (hm : Tryz.prog.follows .mixedOrders = true) (hI : Stable I B0) (hX : GivenOK Tryz.prog X I B0) [Ds] {x0 : Aux} {w0 : World} (hE0 : Ext M x0 w0 x w) {R : Ending → World → Prop} {s : ByteArray} {F T k a b d z e q e' q' : Int} {y : ByteArray} {cs : List V} {t : Tmps} {act : Act} (h6 : getT t 6 = .box (base + 1) 0) (h7 : getT t 7 = .box (base + 2) 0)
    (S : Sim I B0 M 37 x t (rdB z e' q' (rd s F T k a b y d) cs) act w) {x1 : Aux} (hx1 : ∀ i, base ≤ i → x1.ρ i = x.ρ i)
    (hR : ∀ x' w' rv, Ext M x0 w0 x' w' → RepN x' (.tuple [vI T, .agg [cZ e, cZ q]]) rv → WSim I B0 M x' (rdB T e q (rd s F T k a b y d) cs) w' → R (.returned rv) w') :
    Leaves Tryz.prog Tryz.f57 act.tmps R [d2 x1, d1 x1] (.panicking [{ v := .iface 169 (.agg #[.int .i64 e, .int .i64 q]), recovered := false }]) w := by
  refine leaves_cons (f := 87) (args := #[.pointer (some ⟨x1.ρ (base + 2), 0, none⟩)]) (by simp) (by simp [go_sem]) ?_
  rw [hx1 (base + 2) (by omega)]
  have hin : boxesIn (getB (rdB z e' q' (rd s F T k a b y d) cs)) (idF [base + 2]) [base + 2] 0 = some [[vI e', vI q']] := rfl
  have C := caught_pan (vs := #[.pointer (some ⟨x.ρ (base + 2), 0, none⟩)]) hm hI hX (e := e) (q := q) (callee_args S.ws (by simp) hin (args := [.box (base + 2) 0]) ⟨_, _, rfl, rfl, rfl⟩) (callee_in S.ws (by simp) hin).1
  refine (outD S.ws hI (by simp) hin (bx' := [[vI e, vI q]]) (wr := [(base + 2, [vI e, vI q])]) rfl (R := fun en u' => en = .returned (.tuple #[]) ∧ u' = _) (C.mono fun en u' w' ⟨h1, h2, h3⟩ => ⟨⟨h1, h2⟩, h3⟩)).mono ?_
  rintro en u' w' ⟨⟨rfl, rfl⟩, x', hE⟩
  refine read_leave1 hm hI hX (hE0.trans hE.ext) h6 h7 (z := z) (k := k) (a := a) (b := b) (y := y) (d := d) (s := s) (F := F) ((S.after hE).less (fun i => .inr rfl) fun j cs' hj => ?_) (fun i hi => (hx1 i hi).trans (hE.ρ i (by simp)).symm) hR
  rw [← hj]
  simp only [rdB, catB, getB]
  split
  · rename_i e9; rw [← Nat.eq_of_beq_eq_true e9]; rfl
  · rfl
end
end Go.Proofs.YtaddhpeainliiaaGreatDoor.Id
/-! ## PaReadC -/
namespace Go.Proofs.YtaddhpeainliiaaGreatDoor.Id
open Go
set_option linter.unusedVariables false
set_option linter.unusedSimpArgs false
section
variable {I : World → Prop} {B0 : Nat} {M : Nat → Prop} {X : Given} {x : Aux} {w : World} {b : Boxes}
theorem getT_sub {t : Tmps} : ∀ {t' : Tmps}, (∀ p ∈ t', getT t p.1 = p.2) → ∀ i, getT t' i = .undef ∨ getT t' i = getT t i
  | [], h, i => .inl rfl
  | (j, v) :: r, h, i => by
    rw [getT_put]
    split
    · rename_i e9; subst e9; exact .inr (h _ (List.mem_cons_self ..)).symm
    · exact getT_sub (fun p hp => h p (List.mem_cons_of_mem _ hp)) i
theorem getB_sub {b : Boxes} : ∀ {b' : Boxes}, (∀ p ∈ b', getB b p.1 = some p.2) → ∀ j cs, getB b' j = some cs → getB b j = some cs
  | [], h, j, cs, hj => by cases hj
  | (i, c) :: r, h, j, cs, hj => by
    simp only [getB] at hj
    split at hj
    · rename_i e9; rw [← Nat.eq_of_beq_eq_true e9]; cases hj; exact h _ (List.mem_cons_self ..)
    · exact getB_sub (fun p hp => h p (List.mem_cons_of_mem _ hp)) j cs hj
theorem Sim.trim [Ds] {nt : Nat} {t t' : Tmps} {b b' : Boxes} {a : Act} (S : Sim I B0 M nt x t b a w) (ht : ∀ p ∈ t', getT t p.1 = p.2) (hb : ∀ p ∈ b', getB b p.1 = some p.2) : Sim I B0 M nt x t' b' a w :=
  S.less (getT_sub ht) (getB_sub hb)
noncomputable abbrev rdc : Code := codeOf Tryz.f57
noncomputable abbrev rdRest : Code := seqR (seqR (seqR (seqR rdc)))
abbrev rdT0 (s : ByteArray) (f0 : V) : Tmps := [(0, vS s), (2, f0), (6, .box 6 0), (7, .box 7 0), (8, .box 8 0)]
abbrev rdB0 (r cs : List V) : Boxes := [(6, [vI 0]), (7, [vI 0, vI 0]), (8, [.box 13 0]), (13, r), (base, cs)]
/-- the same, seen as from a callee -/
abbrev rdT1 (s : ByteArray) (f0 : V) : Tmps := [(0, vS s), (2, f0), (6, .box (base + 1) 0), (7, .box (base + 2) 0), (8, .box (base + 3) 0)]
abbrev rdI : List Nat := [base, 6, 7, 8, 13]
abbrev rdL (z e q : Int) (r cs : List V) : List (List V) := [cs, [vI z], [vI e, vI q], [.box (base + 4) 0], r]
/-- where the body of parse.read comes to -/
def RdEnd (s : ByteArray) (F T e q : Int) (cs : List V) : Ex × St → Prop := fun (ex, σ) =>
  getT σ.t 6 = .box (base + 1) 0 ∧ getT σ.t 7 = .box (base + 2) 0 ∧ ∃ (z e' q' k a b : Int) (y : ByteArray) (d : Int), (∀ p ∈ rdB z e' q' (rd s F T k a b y d) cs, getB σ.b p.1 = some p.2) ∧ match ex with
    | .normal | .ret => e' = e ∧ q' = q
    | .pan v => v = stopV e q
    | _ => False
def mx (F : Int) : Int := if F < 0 then 0 else F
structure ReadRun (X : Given) (s : ByteArray) (F : Int) (f0 : V) (cs : List V) (T e q : Int) (cs' : List V) : Prop where
  r0 : WP X (evCode tt none (seqL rdc) [(0, vS s), (1, vI F), (2, f0)] [(base, cs)]) fun p => p.1 = .normal ∧ (∀ q ∈ [(0, vS s), (1, vI F), (2, f0), (6, .box 6 0), (7, .box 7 0)], getT p.2.t q.1 = q.2) ∧ ∀ q ∈ [(6, [vI 0]), (7, [vI 0, vI 0]), (base, cs)], getB p.2.b q.1 = some q.2
  r1 : WP X (evCode tt none (seqL (seqR rdc)) [(0, vS s), (1, vI F), (2, f0), (6, .box 6 0), (7, .box 7 0)] [(6, [vI 0]), (7, [vI 0, vI 0]), (base, cs)]) fun p => p.1 = .normal ∧ (∀ q ∈ rdT0 s f0, getT p.2.t q.1 = q.2) ∧ ∀ q ∈ rdB0 (rd s (mx F) 0 0 0 0 .empty 0) cs, getB p.2.b q.1 = some q.2
  hf : ren (idF rdI) f0 = f0
  hf' : ∀ t n es, f0 ≠ .own t n es
  hin : boxesIn (getB (rdB0 (rd s (mx F) 0 0 0 0 .empty 0) cs)) (idF rdI) rdI 0 = some (rdL 0 0 0 (rd s (mx F) 0 0 0 0 .empty 0) cs)
  hout : ∀ (k a b : Int) (y : ByteArray) (d : Int), ∃ wr, boxesOut rdI rdI 0 (rdL T e q (rd s (mx F) T k a b y d) cs') = some wr ∧ ∀ b, getB (catB wr b) base = some cs'
  run : WP X (evCode tt none rdRest (rdT1 s f0) (rdB 0 0 0 (rd s (mx F) 0 0 0 0 .empty 0) cs)) (RdEnd s (mx F) T e q cs')
/-- a stretch that the ideal machine runs -/
theorem run_ok [Ds] (hm : Tryz.prog.follows .mixedOrders = true) (hI : Stable I B0) (hX : GivenOK Tryz.prog X I B0) {nt : Nat} (hn : nt ≤ base) {c : Code} (hd : dstOk nt c = true) (hnd : Ds.nd = true → noDraw c = true) {t : Tmps} {b : Boxes} {a : Act} {Q : Ex × St → Prop} (S : Sim I B0 M nt x t b a w) (h : WP X (evCode tt none c t b) Q) : c.wp Tryz.prog (fun e a' w' => ∃ ex σ, Q (ex, σ) ∧ Behind I B0 M nt x w ex σ e a' w') a w := by
  obtain ⟨⟨ex, σ⟩, hQ, n, h⟩ := h
  exact wp_mono (evCode_ok hm tt_ok hI hX hn n (below_all hm tt_ok hI hX n) c hd hnd none x t b a w ex σ S h) fun e a' w' hb => ⟨ex, σ, hQ, hb⟩
abbrev modF : V := .fn 58 [] [.box base 0]
/-- parse.read comes to what it hands back -/
def ReadX (X : Given) : Given := fun f args bx o => f = 57 ∧ ∃ (s : ByteArray) (F : Int) (f0 : V) (cs cs' : List V) (T e q : Int), args = [vS s, vI F, f0] ∧ bx = [cs] ∧ o = .ret (.tuple [vI T, .agg [cZ e, cZ q]]) [cs'] ∧ ReadRun X s F f0 cs T e q cs'
theorem Sim.newDs {D D' : Ds} {nt : Nat} {t : Tmps} {a a' : Act} (S : @Sim I B0 M D nt x t b a w) (h1 : a'.tmps = a.tmps) (h2 : a'.defers = D'.l) : @Sim I B0 M D' nt x t b a' w :=
  @Sim.mk I B0 M D' nt x t b a' w (fun i => by rw [h1]; exact @Sim.tm I B0 M D nt x t b a w S i) (by rw [h1]; exact @Sim.sz I B0 M D nt x t b a w S) h2 (@Sim.ws I B0 M D nt x t b a w S)
theorem read_rest (hm : Tryz.prog.follows .mixedOrders = true) (hI : Stable I B0) (hX : GivenOK Tryz.prog X I B0) {x0 : Aux} {w0 : World} (hE0 : Ext M x0 w0 x w) {s : ByteArray} {F : Int} {f0 : V} {cs cs' : List V} {T e q : Int} {a : Act} {R : Ending → World → Prop}
    (S : Sim I B0 M 37 x (rdT1 s f0) (rdB 0 0 0 (rd s (mx F) 0 0 0 0 .empty 0) cs) a w) (hr : WP X (evCode tt none rdRest (rdT1 s f0) (rdB 0 0 0 (rd s (mx F) 0 0 0 0 .empty 0) cs)) (RdEnd s (mx F) T e q cs'))
    (hR : ∀ x' w' rv k a b y d, Ext M x0 w0 x' w' → RepN x' (.tuple [vI T, .agg [cZ e, cZ q]]) rv → WSim I B0 M x' (rdB T e q (rd s (mx F) T k a b y d) cs') w' → R (.returned rv) w') :
    (seqR (seqR rdc)).wp Tryz.prog (bodyPostD Tryz.prog Tryz.f57 R) a w := by
  have hp : ∀ j k, getT (rdT1 s f0) j = .box k 0 → a.eval (.tmp j) = .pointer (some ⟨x.ρ k, 0, none⟩) := fun j k h => by
    have := S.tm j
    rw [h] at this
    exact this
  have hq : ∀ j k, getT (rdT1 s f0) j = .box k 0 → a.tmps[j]?.getD undef = .pointer (some ⟨x.ρ k, 0, none⟩) := fun j k h => by
    have := hp j k h
    simpa [Act.eval] using this
  have hsz := S.sz
  have hdf : a.defers = [] := S.df
  refine wp_seq (wp_region ?_)
  refine wpOps_val (v := .func (.func 86) #[] #[.pointer (some ⟨x.ρ (base + 3), 0, none⟩), .pointer (some ⟨x.ρ (base + 1), 0, none⟩)]) (w' := w) rfl rfl ?_ ?_
  · have hmf : ∀ (fn : Fn) (first cap : Array Value) (w : World), (Instr.makeFunc fn first cap).run Tryz.prog w = .ok (.func fn first cap) w := fun _ _ _ _ => rfl
    simp [execOp, go_sem, hmf, hq 8 _ rfl, hq 6 _ rfl]
  have S1 := (S.put (d := 14) (u := .undef) (v := .func (.func 86) #[] #[.pointer (some ⟨x.ρ (base + 3), 0, none⟩), .pointer (some ⟨x.ρ (base + 1), 0, none⟩)]) (by omega) trivial).trim (t' := rdT1 s f0) (b' := rdB 0 0 0 (rd s (mx F) 0 0 0 0 .empty 0) cs) (by (repeat' (first | exact rfl | exact List.forall_mem_nil _ | (refine List.forall_mem_cons.2 ⟨?_, ?_⟩)))) (by (repeat' (first | exact rfl | exact List.forall_mem_nil _ | (refine List.forall_mem_cons.2 ⟨?_, ?_⟩))))
  refine wpOps_defer (d := d1 x) (w' := w) rfl rfl ?_ ?_
  · simp [execOp, go_sem, hsz]
  refine wp_seq (wp_region ?_)
  refine wpOps_defer (d := d2 x) (w' := w) rfl rfl ?_ ?_
  · simp [execOp, go_sem, hq 7 _ rfl]
  letI : Ds := ⟨[d2 x, d1 x], true⟩
  show rdRest.wp Tryz.prog _ _ w
  refine wp_mono (run_ok hm hI hX (nt := 37) (by decide) (by kernel_rfl) (fun _ => by kernel_rfl) (Sim.newDs S1 rfl (by show d2 x :: d1 x :: a.defers = _; rw [hdf]; rfl)) hr) ?_
  rintro en a' w' ⟨ex, σ, ⟨h6, h7, z, e', q', k, ka, kb, y, d, hb, hx⟩, x', g1, g2, g3, g4, g5⟩
  have S4 := (g5 (.inr rfl)).trim (t' := [(6, .box (base + 1) 0), (7, .box (base + 2) 0)]) (b' := rdB z e' q' (rd s (mx F) T k ka kb y d) cs') (List.forall_mem_cons.2 ⟨h6, List.forall_mem_cons.2 ⟨h7, List.forall_mem_nil _⟩⟩) hb
  have hρ : ∀ i, base ≤ i → x.ρ i = x'.ρ i := fun i hi => (g2.rho i hi).symm
  have g3' : a'.defers = [d2 x, d1 x] := g3
  have idle : e' = e → q' = q → Leaves Tryz.prog Tryz.f57 a'.tmps R a'.defers .returning w' := by
    rintro rfl rfl
    rw [g3']
    exact read_leaveI hm hI hX (hE0.trans g2) rfl rfl S4 hρ fun x' w' rv h1 h2 h3 => hR x' w' rv _ _ _ _ _ h1 h2 h3
  cases ex with
  | normal => obtain rfl := g1; exact idle hx.1 hx.2
  | ret => obtain rfl := g1; exact idle hx.1 hx.2
  | exit i => exact hx.elim
  | pan v =>
    obtain ⟨rv, rfl, hrv⟩ := g1
    have hx' : v = stopV e q := hx
    subst hx'
    obtain ⟨u, rfl, l, rfl, hl⟩ := hrv
    obtain ⟨v1, l1, hl1, r1, v2, l2, hl2, r2, r3⟩ := hl
    have h3 : l2 = [] := r3
    subst h3
    have e1 : v1 = .int .i64 e := by cases r1; rfl
    have e2 : v2 = .int .i64 q := by cases r2; rfl
    subst e1 e2 hl2
    have : l = #[.int .i64 e, .int .i64 q] := by cases l; simp_all
    subst this
    show Leaves _ _ _ _ a'.defers _ _
    rw [g3']
    exact read_leaveP hm hI hX (hE0.trans g2) rfl rfl S4 hρ fun x' w' rv h1 h2 h3 => hR x' w' rv _ _ _ _ _ h1 h2 h3
theorem read_ok (hm : Tryz.prog.follows .mixedOrders = true) (hI : Stable I B0) (hX : GivenOK Tryz.prog X I B0) {s : ByteArray} {F : Int} {f0 : V} {cs cs' : List V} {T e q : Int} (hr : ReadRun X s F f0 cs T e q cs') :
    CallOK Tryz.prog I B0 57 [vS s, vI F, f0] [cs] (.ret (.tuple [vI T, .agg [cZ e, cZ q]]) [cs']) := by
  intro M x w vs hargs S
  have S0 : Sim I B0 M 37 x [(0, vS s), (1, vI F), (2, f0)] [(base, cs)] _ w := sim0 (nt := 37) hargs (by simp) S
  refine calls_of_wp_defers Tryz.func57 rfl ?_
  show rdc.wp _ _ _ _
  refine wp_seq (wp_mono (run_ok hm hI hX (nt := 37) (by decide) (by kernel_rfl) (fun h => by cases h) S0 hr.r0) ?_)
  rintro en a1 w1 ⟨ex, σ, ⟨hex, h1, h2⟩, hb⟩
  have hex' : ex = .normal := hex
  subst hex'
  obtain ⟨rfl, x1, hE1, S1⟩ := hb.normal
  refine wp_seq (wp_mono (run_ok hm hI hX (nt := 37) (by decide) (by kernel_rfl) (fun h => by cases h) (S1.trim h1 h2) hr.r1) ?_)
  rintro en a2 w2 ⟨ex, σ, ⟨hex, h1, h2⟩, hb⟩
  have hex' : ex = .normal := hex
  subst hex'
  obtain ⟨rfl, x2, hE2, S2⟩ := hb.normal
  have S2 := S2.trim h1 h2
  have hnd : rdI.Nodup := by decide
  obtain ⟨Sw, hren⟩ := callee_in S2.ws hnd hr.hin
  have S3 : Sim I B0 (calleeMay x2 (rdB0 (rd s (mx F) 0 0 0 0 .empty 0) cs) rdI w2) 37 (calleeAux x2 (rdB0 (rd s (mx F) 0 0 0 0 .empty 0) cs) rdI) (rdT1 s f0) (rdB 0 0 0 (rd s (mx F) 0 0 0 0 .empty 0) cs) a2 w2 := by
    refine ⟨fun i => ?_, S2.sz, S2.df, Sw⟩
    have ht := S2.tm i
    match i with
    | 0 => exact ht
    | 1 => trivial
    | 2 =>
      have h3 := hren _ _ ht.toN
      rw [show getT (rdT0 s f0) 2 = f0 from rfl, hr.hf] at h3
      exact h3.toV hr.hf'
    | 3 | 4 | 5 => trivial
    | 6 => exact (hren _ _ ht)
    | 7 => exact (hren _ _ ht)
    | 8 => exact (hren _ _ ht)
    | n + 9 => trivial
  refine read_rest hm hI hX (Ext.refl _ _) S3 hr.run ?_
  intro x' w' rv k a b y d hE hrv S'
  obtain ⟨wr, ho, hg⟩ := hr.hout k a b y d
  have hO := callee_out S2.ws hI hnd hr.hin hE (bx' := rdL T e q (rd s (mx F) T k a b y d) cs') S' ho (u := .tuple [vI T, .agg [cZ e, cZ q]]) rfl hrv
  have hws := hO.ws (cleanB _ _ (rdB0 (rd s (mx F) 0 0 0 0 .empty 0) cs)) (fun i => getB_clean _ _ _ _)
  refine ⟨_, (hE1.trans hE2).trans hO.ext, rv, rfl, hO.rv, hws.weak fun i c hi => ?_⟩
  simp only [number, getB] at hi
  split at hi
  · rename_i e9; rw [← Nat.eq_of_beq_eq_true e9]; cases hi; exact ⟨_, hg _, fun _ h => h⟩
  · cases hi
theorem readX_ok (hm : Tryz.prog.follows .mixedOrders = true) (hI : Stable I B0) (hX : GivenOK Tryz.prog X I B0) : GivenOK Tryz.prog (ReadX X) I B0 := by
  rintro f args bx o ⟨rfl, s, F, f0, cs, cs', T, e, q, rfl, rfl, rfl, hr⟩
  exact ⟨⟨_, Tryz.func57, by kernel_rfl, rfl⟩, read_ok hm hI hX hr⟩
end
end Go.Proofs.YtaddhpeainliiaaGreatDoor.Id
/-! ## PaTop -/
namespace Go.Proofs.YtaddhpeainliiaaGreatDoor.Id
open Go
set_option linter.unusedVariables false
set_option linter.unusedSimpArgs false
variable {X : Given}
/-- what a reading hands back -/
def RdOut {α : Type} (E : Env) (vo : α → List V) (er : List V → Prop) (res : Rs α) (T e q : Int) (cs' : List V) : Prop :=
  match res with
  | .ok x l => T + 1 = E.N ∧ e = 0 ∧ q = 0 ∧ cs' = vo x
  | .more => T = E.N ∧ e = E.f.1 ∧ q = E.f.2 ∧ er cs'
  | .err c l => ∃ t r, l = t :: r ∧ T + l.length = E.N ∧ e = (c : Nat) ∧ q = t.a ∧ er cs'
  | .out => False
def runL {α : Type} (p : Gr α) : List Tk → Rs α
  | [] => .more
  | t :: r => runG p (t :: r)
abbrev erM (cs : List V) : Prop := cs = m0V ∨ ∃ m, cs = mcA base m
theorem rest_mod (hX : LibX X) (E : Env) {n : Nat} (hn : n ≤ 100000000) {l : List Tk} (hc : Chain E.s 0 E.F l E.f) (hN : l.length = E.N) (hne : runL (pEnd (pModule n)) l ≠ .out) :
    WP X (evCode tt none rdRest (rdT1 E.s modF) (rdB 0 0 0 (rd E.s E.F 0 0 0 0 .empty 0) m0V)) fun p => ∃ T e q cs', RdOut E (mcA base) erM (runL (pEnd (pModule n)) l) T e q cs' ∧ RdEnd E.s E.F T e q cs' p := by
  have hs := E.hs
  refine WP.iteF (decide_eq_false (by omega)) ?_
  refine WP.use (r_look hX E 0 0 l (by omega) (by omega) (by simpa using hN) (by simpa using hc) 0 0 0 .empty 0) fun o ho => ?_
  cases l with
  | nil =>
    obtain ⟨k, a, b, y, d, rfl⟩ := ho
    refine WP.leaf ⟨E.N, E.f.1, E.f.2, m0V, ⟨rfl, rfl, rfl, .inl rfl⟩, rfl, rfl, 0, 0, 0, k, a, b, y, d, ?_, rfl⟩
    (repeat' (first | exact rfl | exact List.forall_mem_nil _ | (refine List.forall_mem_cons.2 ⟨?_, ?_⟩)))
  | cons t r =>
    obtain ⟨T, t', r', hl, hA, rfl⟩ := ho
    obtain ⟨rfl, rfl⟩ := List.cons.inj hl
    refine WP.use (r_modfn hX hn E T t r hA fun h => hne ?_) fun o ho => ?_
    · show runG (pEnd (pModule n)) (t :: r) = _
      unfold pEnd
      rw [runG_bind, h]; rfl
    have hne' : runG (pEnd (pModule n)) (t :: r) ≠ .out := hne
    show WP X _ fun p => ∃ T e q cs', RdOut E (mcA base) erM (runG (pEnd (pModule n)) (t :: r)) T e q cs' ∧ RdEnd E.s E.F T e q cs' p
    unfold pEnd at hne' ⊢
    rw [runG_bind] at hne' ⊢
    cases hr : runG (pModule n) (t :: r) with
    | ok m l =>
      rw [hr] at ho
      obtain ⟨T, t, r, rfl, hA, rfl⟩ := ho
      show WP X _ fun p => ∃ T' e q cs', RdOut E (mcA base) erM (runG (match decide (t.k = 0) with | true => Gr.ret m | false => Gr.err 140) (t :: r)) T' e q cs' ∧ RdEnd E.s E.F T' e q cs' p
      by_cases hk : t.k = 0
      · refine WP.iteF (by simp [hk]) ?_
        refine WP.leaf ⟨T, 0, 0, mcA base m, ?_, rfl, rfl, T, 0, 0, t.k, t.a, ((t.a + t.s.size : Nat) : Int), t.s, 0, ?_, rfl, rfl⟩
        · rw [decide_eq_true hk]; exact ⟨by have := hA.n; rw [hA.z hk] at this; exact_mod_cast this, rfl, rfl, rfl⟩
        · (repeat' (first | exact rfl | exact List.forall_mem_nil _ | (refine List.forall_mem_cons.2 ⟨?_, ?_⟩)))
      · refine WP.iteT (by simp [hk]) ?_
        refine WP.use1 (r_fail _ _ _ _ _ _ _ _ _) ?_
        refine WP.leaf ⟨T, 140, t.a, mcA base m, ?_, rfl, rfl, 0, 0, 0, t.k, t.a, ((t.a + t.s.size : Nat) : Int), t.s, 0, ?_, rfl⟩
        · rw [decide_eq_false hk]; exact ⟨t, r, rfl, by have := hA.n; exact_mod_cast this, rfl, rfl, .inr ⟨m, rfl⟩⟩
        · (repeat' (first | exact rfl | exact List.forall_mem_nil _ | (refine List.forall_mem_cons.2 ⟨?_, ?_⟩)))
    | more =>
      rw [hr] at ho
      obtain ⟨k, a, b, y, d, m, -, rfl⟩ := ho
      refine WP.leaf ⟨E.N, E.f.1, E.f.2, mcA base m, ⟨rfl, rfl, rfl, .inr ⟨m, rfl⟩⟩, rfl, rfl, 0, 0, 0, k, a, b, y, d, ?_, rfl⟩
      (repeat' (first | exact rfl | exact List.forall_mem_nil _ | (refine List.forall_mem_cons.2 ⟨?_, ?_⟩)))
    | err e l =>
      rw [hr] at ho
      obtain ⟨t, r, T, k, a, b, y, d, rfl, hN, m, -, rfl⟩ := ho
      refine WP.leaf ⟨T, (e : Nat), t.a, mcA base m, ⟨t, r, rfl, by exact_mod_cast hN, rfl, rfl, .inr ⟨m, rfl⟩⟩, rfl, rfl, 0, 0, 0, k, a, b, y, d, ?_, rfl⟩
      (repeat' (first | exact rfl | exact List.forall_mem_nil _ | (refine List.forall_mem_cons.2 ⟨?_, ?_⟩)))
    | out => rw [hr] at hne'; exact absurd rfl hne'
abbrev erE (cs : List V) : Prop := cs = e0V ∨ ∃ e, cs = eV e
/-- so much fuel, cut to a whole number -/
theorem mx_nat (F : Int) : mx F = (F.toNat : Int) := by unfold mx; split <;> omega
theorem big_mod {s : ByteArray} {F : Int} (h : 65536 < s.size) : ReadRun X s F modF m0V 0 3 0 m0V where
  r0 := WP.leaf ⟨rfl, by simp [getT], by (repeat' (first | exact rfl | exact List.forall_mem_nil _ | (refine List.forall_mem_cons.2 ⟨?_, ?_⟩)))⟩
  r1 := WP.leaf ⟨rfl, by simp [getT], by (repeat' (first | exact rfl | exact List.forall_mem_nil _ | (refine List.forall_mem_cons.2 ⟨?_, ?_⟩)))⟩
  hf := by kernel_rfl
  hf' := by intro t n es h; cases h
  hin := rfl
  hout := fun k a b y d => ⟨_, rfl, fun b => rfl⟩
  run := by
    refine WP.iteT (decide_eq_true (by omega)) ?_
    refine WP.leaf ⟨rfl, rfl, 0, 3, 0, 0, 0, 0, .empty, 0, ?_, rfl, rfl⟩
    (repeat' (first | exact rfl | exact List.forall_mem_nil _ | (refine List.forall_mem_cons.2 ⟨?_, ?_⟩)))
theorem read_mod (hX : LibX X) (E : Env) {F : Int} (hF : mx F = E.F) {n : Nat} (hn : n ≤ 100000000) {l : List Tk} (hc : Chain E.s 0 E.F l E.f) (hN : l.length = E.N) (hne : runL (pEnd (pModule n)) l ≠ .out) :
    ∃ T e q cs', RdOut E (mcA base) erM (runL (pEnd (pModule n)) l) T e q cs' ∧ ReadRun X E.s F modF m0V T e q cs' := by
  obtain ⟨p, ⟨T, e, q, cs', h1, h2⟩, h3⟩ := rest_mod hX E hn hc hN hne
  have hcs : cs' = m0V ∨ ∃ m, cs' = mcA base m := by
    unfold RdOut at h1
    split at h1
    · exact .inr ⟨_, h1.2.2.2⟩
    · exact h1.2.2.2
    · obtain ⟨t, r, _, _, _, _, h⟩ := h1; exact h
    · exact h1.elim
  refine ⟨T, e, q, cs', h1, WP.leaf ⟨rfl, by simp [getT], by (repeat' (first | exact rfl | exact List.forall_mem_nil _ | (refine List.forall_mem_cons.2 ⟨?_, ?_⟩)))⟩, WP.leaf ⟨rfl, by simp [getT], by (repeat' (first | exact rfl | exact List.forall_mem_nil _ | (refine List.forall_mem_cons.2 ⟨?_, ?_⟩)))⟩, by kernel_rfl, (by intro t n es h; cases h), rfl, ?_, ?_⟩
  · intro k a b y d
    rcases hcs with rfl | ⟨m, rfl⟩ <;> exact ⟨_, rfl, fun b => rfl⟩
  · rw [hF]; exact ⟨p, h2, h3⟩
end Go.Proofs.YtaddhpeainliiaaGreatDoor.Id
/-! ## PaTopB -/
namespace Go.Proofs.YtaddhpeainliiaaGreatDoor.Id
open Go
set_option linter.unusedVariables false
set_option linter.unusedSimpArgs false
def OrX (X : Given) : Given := fun f a b o => X f a b o ∨ ReadX X f a b o
theorem orX_ok {I : World → Prop} {B0 : Nat} {X : Given} (hm : Tryz.prog.follows .mixedOrders = true) (hI : Stable I B0) (hX : GivenOK Tryz.prog X I B0) : GivenOK Tryz.prog (OrX X) I B0 :=
  fun f a b o h => h.elim (hX f a b o) (readX_ok hm hI hX f a b o)
theorem OrX.lib {X : Given} (h : LibX X) : LibX (OrX X) := ⟨fun s c r h1 h2 h3 h4 => .inl (h.wh s c r h1 h2 h3 h4), fun s c => .inl (h.ib s c)⟩
theorem read_does {X : Given} {s : ByteArray} {F : Int} {f0 : V} {cs cs' : List V} {T e q : Int} (h : ReadRun X s F f0 cs T e q cs') : Does (OrX X) 57 [vS s, vI F, f0] [cs] (.ret (.tuple [vI T, .agg [cZ e, cZ q]]) [cs']) :=
  Does.ext (.inr ⟨rfl, s, F, f0, cs, cs', T, e, q, rfl, rfl, rfl, h⟩)
abbrev mD (m : TMod) : List D := [.sl 3 (isD' m.is), .sl 13 (csD m.cs), .sl 6 (fsD m.fs)]
abbrev e0D : List D := [cZ 0, cZ 0, .str .empty, .str .empty, cZ 0, cZ 0, .bool false, .str .empty, cZ 0, .sl 10 []]
theorem t_mod_ok {X : Given} {s : ByteArray} {F T : Int} {m : TMod} (h : ReadRun X s F modF m0V T 0 0 (mcA base m)) : Does (OrX X) 26 [vS s, vI F] [] (.ret (.tuple [.agg (mD m), .agg [cZ 0, cZ 0]]) []) := by
  refine DoesQ.eq (DoesQ.of Tryz.func26 (by kernel_rfl) ?_)
  refine WP.use1 (read_does h) ?_
  refine WP.iteF (by simp) ?_
  refine WP.asrt (by kernel_rfl) ?_
  refine WP.asrt (by kernel_rfl) ?_
  exact WP.leaf rfl
theorem t_mod_err {X : Given} {s : ByteArray} {F T e q : Int} {cs' : List V} (h : ReadRun X s F modF m0V T e q cs') (hc : cs' = m0V ∨ ∃ m, cs' = mcA base m) (he : e ≠ 0 ∨ q ≠ 0) : Does (OrX X) 26 [vS s, vI F] [] (.ret (.tuple [.agg [.sl 3 [], .sl 13 [], .sl 6 []], .agg [cZ e, cZ q]]) []) := by
  refine DoesQ.eq (DoesQ.of Tryz.func26 (by kernel_rfl) ?_)
  refine WP.use1 (read_does h) ?_
  rcases hc with rfl | ⟨m, rfl⟩
  · refine WP.iteT (by simp; omega) ?_
    refine WP.asrt (by kernel_rfl) ?_
    refine WP.asrt (by kernel_rfl) ?_
    exact WP.leaf rfl
  · refine WP.iteT (by simp; omega) ?_
    refine WP.asrt (by kernel_rfl) ?_
    refine WP.asrt (by kernel_rfl) ?_
    exact WP.leaf rfl
end Go.Proofs.YtaddhpeainliiaaGreatDoor.Id
/-! ## PaFed -/
namespace Go.Proofs.YtaddhpeainliiaaGreatDoor.Id
open Go
set_option linter.unusedVariables false
/-- on so many tokens: not out of fuel; and so many are taken -/
def Fed {α : Type} (p : Gr α) (m c : Nat) : Prop := ∀ l, l ≠ [] → l.length ≤ m → match runG p l with
  | .out => False
  | .ok _ l' => l' ≠ [] ∧ l'.length + c ≤ l.length
  | _ => True
section
variable {α β : Type} {m c : Nat}
theorem Fed.pos {p : Gr α} (h : 1 ≤ m → Fed p m c) : Fed p m c := fun l h0 hl => h (by cases l with | nil => exact absurd rfl h0 | cons => simp at hl; omega) l h0 hl
theorem Fed.ret (x : α) : Fed (.ret x) m 0 := fun l h0 _ => ⟨h0, Nat.le_refl _⟩
theorem Fed.err (e : Nat) : Fed (.err e : Gr α) m c := fun _ _ _ => trivial
theorem Fed.look {f : Tk → Gr α} (h : ∀ t, Fed (f t) m c) : Fed (.look f) m c := fun l h0 hl => by
  cases l with
  | nil => exact absurd rfl h0
  | cons t r => exact h t (t :: r) h0 hl
theorem Fed.next {g : Gr α} (h : 2 ≤ m → Fed g (m - 1) c) : Fed (.next g) m (c + 1) := fun l h0 hl => by
  match l with
  | [] => exact absurd rfl h0
  | [t] => exact trivial
  | t :: u :: r =>
    have := h (by simp at hl; omega) (u :: r) (by simp) (by simp at hl ⊢; omega)
    show match runG g (u :: r) with | .out => False | .ok _ l' => l' ≠ [] ∧ l'.length + (c + 1) ≤ (t :: u :: r).length | _ => True
    revert this
    cases runG g (u :: r) <;> simp
    intro h1 h2; exact ⟨h1, by omega⟩
theorem Fed.mono {p : Gr α} {c' : Nat} (h : Fed p m c) (hc : c' ≤ c) : Fed p m c' := fun l h0 hl => by
  have := h l h0 hl
  revert this
  cases runG p l <;> simp
  intro h1 h2; exact ⟨h1, by omega⟩
theorem Fed.bind {p : Gr α} {f : α → Gr β} {c' : Nat} (h : Fed p m c) (k : 1 + c ≤ m → ∀ x, Fed (f x) (m - c) c') : Fed (p.bind f) m (c + c') := fun l h0 hl => by
  have h1 := h l h0 hl
  rw [runG_bind]
  revert h1
  cases runG p l with
  | out => exact fun h => h
  | more => exact fun _ => trivial
  | err e r => exact fun _ => trivial
  | ok x r =>
    rintro ⟨h2, h3⟩
    have hr : 1 ≤ r.length := by cases r with | nil => exact absurd rfl h2 | cons => simp
    have := k (by omega) x r h2 (by omega)
    show match runG (f x) r with | .out => False | .ok _ l' => l' ≠ [] ∧ l'.length + (c + c') ≤ l.length | _ => True
    revert this
    cases runG (f x) r <;> simp
    intro h1 h2; exact ⟨h1, by omega⟩
theorem Fed.bind0 {p : Gr α} {f : α → Gr β} {c' : Nat} (h : Fed p m 0) (k : ∀ x, Fed (f x) m c') : Fed (p.bind f) m c' := by
  have := Fed.bind h (f := f) (c' := c') fun _ x => k x
  rwa [Nat.zero_add] at this
theorem Fed.bind1 {p : Gr α} {f : α → Gr β} {c' : Nat} (h : Fed p m 1) (k : 2 ≤ m → ∀ x, Fed (f x) (m - 1) c') : Fed (p.bind f) m 1 :=
  (Fed.bind h k).mono (by omega)
theorem Fed.next0 {g : Gr α} (h : 2 ≤ m → Fed g (m - 1) 0) : Fed (.next g) m 1 := Fed.next h
theorem Fed.nextc {g : Gr α} {c : Nat} (h : 2 ≤ m → Fed g (m - 1) c) : Fed (.next g) m 1 := (Fed.next h).mono (by omega)
theorem Fed.bool {b : Bool} {p q : Gr α} (h1 : Fed p m c) (h2 : Fed q m c) : Fed (match b with | true => p | false => q) m c := by cases b <;> assumption
theorem Fed.bool' {b : Bool} {p q : Gr α} (h1 : Fed p m c) (h2 : Fed q m c) : Fed (match b with | false => q | true => p) m c := by cases b <;> assumption
theorem fed_must (x : ByteArray) : Fed (gMust x) m 1 := .look fun t => .bool (.next0 fun _ => .ret _) (.err _)
theorem fed_of (k : Nat) : Fed (gOf k) m 1 := .look fun t => .bool (.next0 fun _ => .ret _) (.err _)
theorem fed_open (x : ByteArray) (d : Nat) : Fed (gOpen x d) m 1 := .look fun t => .bool (.bool (.err _) (.next0 fun _ => .ret _)) (.err _)
theorem fed_is (x : ByteArray) : Fed (gIs x) m 0 := .look fun t => .ret _
theorem fed_sep (n : Nat) : Fed (gSep n) m 0 := .bool ((Fed.bind1 (fed_must _) fun _ _ => .ret _).mono (by omega)) (.ret _)
theorem fed_type : Fed pType m 1 := .look fun t => .bool (.next0 fun _ => .ret _) (.err _)
end
def FedE (n m : Nat) : Prop := (∀ k d, k ≤ 5 → 16 * m + 8 ≤ n + k → Fed (pLine n k d) m 1) ∧ (∀ k d e, k < 5 → 16 * m + 1 ≤ n → Fed (pTail n k d e) m 0) ∧ (∀ d, 16 * m + 2 ≤ n → Fed (pUnary n d) m 1) ∧ (∀ d, 16 * m + 1 ≤ n → Fed (pPrim n d) m 1) ∧
  (∀ d a of nm, 16 * m + 2 ≤ n → Fed (pName n d a of nm) m 0) ∧ (∀ d, 16 * m + 1 ≤ n → Fed (pArgs n d) m 1) ∧ (∀ d l, 16 * m + 9 ≤ n → Fed (pArgl n d l) m 1)
theorem fedE : ∀ n m, FedE n m
  | 0, m => ⟨fun _ _ _ _ => by omega, fun _ _ _ _ _ => by omega, fun _ _ => by omega, fun _ _ => by omega, fun _ _ _ _ _ => by omega, fun _ _ => by omega, fun _ _ _ => by omega⟩
  | n + 1, m => by
    have ih := fedE n
    refine ⟨fun k d hk hn => ?_, fun k d e hk hn => ?_, fun d hn => ?_, fun d hn => ?_, fun d a of nm hn => ?_, fun d hn => ?_, fun d l hn => ?_⟩
    · rw [pLine]
      by_cases h5 : k = 5
      · rw [decide_eq_true h5]; exact (ih m).2.2.1 d (by omega)
      · rw [decide_eq_false h5]
        exact .bind1 ((ih m).1 (k + 1) d (by omega) (by omega)) fun h2 e => (ih (m - 1)).2.1 k d e (by omega) (by omega)
    · rw [pTail]
      refine .look fun t => .bool (Fed.mono (.nextc fun h2 => .bind1 ((ih (m - 1)).1 (k + 1) d (by omega) (by omega)) fun h3 e2 => .bool (.ret _) ((ih (m - 1 - 1)).2.1 k d _ hk (by omega))) (by omega)) (.ret _)
    · rw [pUnary]
      exact .look fun t => .bool (.bool (.err _) (.nextc fun h2 => .bind1 ((ih (m - 1)).2.2.1 _ (by omega)) fun _ e => .ret _)) ((ih m).2.2.2.1 d (by omega))
    · rw [pPrim]
      refine .look fun t => .bool (.next0 fun _ => .ret _) (.bool (.next0 fun _ => .ret _) (.bool (.next0 fun _ => .ret _) (.bool ?_ ?_)))
      · exact .bind1 (fed_open _ _) fun h2 _ => .bind1 ((ih (m - 1)).1 0 _ (by omega) (by omega)) fun _ e => .bind1 (fed_must _) fun _ _ => .ret _
      · exact .bind1 (fed_of _) fun h2 w => .bind0 (fed_is _) fun b => .bool (Fed.mono (.nextc fun h3 => .bind1 (fed_of _) fun h4 w2 => (ih (m - 1 - 1 - 1)).2.2.2.2.1 _ _ _ _ (by omega)) (by omega)) ((ih (m - 1)).2.2.2.2.1 _ _ _ _ (by omega))
    · rw [pName]
      exact .bind0 (fed_is _) fun b => .bool (Fed.mono (.bind1 ((ih m).2.2.2.2.2.1 d (by omega)) fun _ l => .ret _) (by omega)) (.ret _)
    · rw [pArgs]
      exact .bind1 (fed_open _ _) fun h2 _ => (ih (m - 1)).2.2.2.2.2.2 _ _ (by omega)
    · rw [pArgl]
      exact .bind0 (fed_is _) fun b => .bool (.next0 fun _ => .ret _) (.bind0 (fed_sep _) fun _ => .bind1 ((ih m).1 0 d (by omega) (by omega)) fun h2 e => (ih (m - 1)).2.2.2.2.2.2 _ _ (by omega))
theorem fed_line {n k d m : Nat} (hk : k ≤ 5) (h : 16 * m + 8 ≤ n + k) : Fed (pLine n k d) m 1 := (fedE n m).1 k d hk h
theorem fed_args {n d m : Nat} (h : 16 * m + 1 ≤ n) : Fed (pArgs n d) m 1 := (fedE n m).2.2.2.2.2.1 d h
theorem fed_semi {m : Nat} (s : TStmt) : Fed (gSemi s) m 1 := .bind1 (fed_must _) fun _ _ => .ret _
theorem fed_named {n d m : Nat} (h : 16 * m + 1 ≤ n) : Fed (pNamed n d) m 1 :=
  .bind1 (fed_of _) fun h2 w => .bind0 (fed_is _) fun b => .bool (Fed.mono (.nextc fun h3 => .bind1 (fed_line (by omega) (by omega)) fun _ e => .ret _) (by omega : 0 ≤ 1))
    (.bind0 (fed_is _) fun b => .bool (Fed.mono (.nextc fun h3 => .bind1 (fed_of _) fun h4 w2 => .bind1 (fed_args (by omega)) fun _ l => .ret _) (by omega)) (Fed.mono (.bind1 (fed_args (by omega)) fun _ l => .ret _) (by omega)))
def FedS (n m : Nat) : Prop := (∀ d, 16 * m + 1 ≤ n → Fed (pBlock n d) m 1) ∧ (∀ d l, 16 * m + 3 ≤ n → Fed (pStmts n d l) m 1) ∧ (∀ d, 16 * m + 2 ≤ n → Fed (pStmt n d) m 1) ∧ (∀ d, 16 * m + 1 ≤ n → Fed (pBranch n d) m 1)
theorem fedS : ∀ n m, FedS n m
  | 0, m => ⟨fun _ _ => by omega, fun _ _ _ => by omega, fun _ _ => by omega, fun _ _ => by omega⟩
  | n + 1, m => by
    have ih := fedS n
    refine ⟨fun d hn => ?_, fun d l hn => ?_, fun d hn => ?_, fun d hn => ?_⟩
    · rw [pBlock]
      exact .bind1 (fed_open _ _) fun h2 _ => (ih (m - 1)).2.1 _ _ (by omega)
    · rw [pStmts]
      exact .bind0 (fed_is _) fun b => .bool (.next0 fun _ => .ret _) (.bind1 ((ih m).2.2.1 d (by omega)) fun h2 s => (ih (m - 1)).2.1 _ _ (by omega))
    · rw [pStmt]
      refine .look fun t => .bool ?_ (.bool ?_ (.bool ?_ (.bool ?_ (.bool ?_ ?_))))
      · exact .nextc fun h2 => .bind1 (fed_of _) fun h3 w => .bind1 (fed_must _) fun h4 _ => .bind1 (fed_line (by omega) (by omega)) fun _ e => fed_semi _
      · exact (ih m).2.2.2 d (by omega)
      · exact .nextc fun h2 => .bind1 (fed_line (by omega) (by omega)) fun h3 e => .bind1 ((ih _).1 d (by omega)) fun _ b => .ret _
      · exact .nextc fun h2 => .bind0 (fed_is _) fun b => .bool (fed_semi _) (.bind1 (fed_line (by omega) (by omega)) fun _ e => fed_semi _)
      · exact .nextc fun h2 => .bind1 (fed_line (by omega) (by omega)) fun _ e => fed_semi _
      · exact .bind1 (fed_named (by omega)) fun _ x => fed_semi _
    · rw [pBranch]
      exact .bind1 (fed_must _) fun h2 a => .bind1 (fed_line (by omega) (by omega)) fun h3 e => .bind1 ((ih _).1 d (by omega)) fun h4 b => .bind0 (fed_is _) fun b2 =>
        .bool' (Fed.mono (.nextc fun h5 => .bind0 (fed_is _) fun b3 => .bool (Fed.mono (.bind1 ((ih _).2.2.2 d (by omega)) fun _ s => .ret _) (by omega : 0 ≤ 1)) (Fed.mono (.bind1 ((ih _).1 d (by omega)) fun _ l => .ret _) (by omega))) (by omega : 0 ≤ 1)) (.ret _)
theorem fed_block {n d m : Nat} (h : 16 * m + 1 ≤ n) : Fed (pBlock n d) m 1 := (fedS n m).1 d h
theorem fed_param {m : Nat} : Fed pParam m 1 := .bind1 (fed_of _) fun _ w => .bind1 (fed_must _) fun _ _ => .bind1 fed_type fun _ t => .ret _
theorem fed_params : ∀ n m l, m + 1 ≤ n → Fed (pParams n l) m 1
  | 0, m, l, h => by omega
  | n + 1, m, l, h => by
    rw [pParams]
    exact .bind0 (fed_is _) fun b => .bool (.next0 fun _ => .ret _) (.bind0 (fed_sep _) fun _ => .bind1 fed_param fun h2 x => fed_params n _ _ (by omega))
theorem fed_func {n m : Nat} {ex : Bool} (h : 16 * m + 1 ≤ n) : Fed (pFunc n ex) m 1 :=
  .bind1 (fed_must _) fun h2 _ => .bind1 (fed_of _) fun h3 w => .bind1 (fed_open _ _) fun h4 _ => .bind1 (fed_params _ _ _ (by omega)) fun h5 ps => .bind0 (fed_is _) fun b =>
    .bool (.nextc fun h6 => .bind1 fed_type fun h7 t => .bind1 (fed_block (by omega)) fun _ b => .ret _) (.bind1 (fed_block (by omega)) fun _ b => .ret _)
theorem fed_const {n m : Nat} {ex : Bool} (h : 16 * m + 1 ≤ n) : Fed (pConst n ex) m 1 :=
  .bind1 (fed_must _) fun h2 _ => .bind1 (fed_of _) fun h3 w => .bind1 (fed_must _) fun h4 _ => .bind1 (fed_line (by omega) (by omega)) fun h5 e => .bind1 (fed_must _) fun _ _ => .ret _
theorem fed_incl {m : Nat} : Fed pIncl m 1 :=
  .bind1 (fed_must _) fun h2 _ => .bind1 (fed_of _) fun h3 w => .bind1 (fed_must _) fun h4 _ => .bind1 (fed_of _) fun h5 e => .bind1 (fed_must _) fun _ _ => .ret _
theorem fed_incls : ∀ n m l, m + 1 ≤ n → Fed (pIncls n l) m 0
  | 0, m, l, h => by omega
  | n + 1, m, l, h => by
    rw [pIncls]
    exact .bind0 (fed_is _) fun b => .bool (Fed.mono (.bind1 fed_incl fun h2 x => fed_incls n _ _ (by omega)) (by omega)) (.ret _)
theorem fed_decl {k : TMod → Gr TMod} {n m : Nat} {ex : Bool} {md : TMod} (h : 16 * m + 1 ≤ n) (hk : ∀ md, 2 ≤ m → Fed (k md) (m - 1) 0) : Fed (pDecl k n ex md) m 1 :=
  .look fun t => .bool (.bind1 (fed_const h) fun h2 c => hk _ h2) (.bool (.bind1 (fed_func h) fun h2 f => hk _ h2) (.err _))
theorem fed_decls : ∀ n m md, 16 * m + 2 ≤ n → Fed (pDecls n md) m 0
  | 0, m, md, h => by omega
  | n + 1, m, md, h => by
    rw [pDecls]
    exact .look fun t => .bool (.ret _) (.bool (Fed.mono (.nextc fun h2 => fed_decl (by omega) fun md h3 => fed_decls n _ _ (by omega)) (by omega : 0 ≤ 1)) (Fed.mono (fed_decl (by omega) fun md h3 => fed_decls n _ _ (by omega)) (by omega)))
theorem fed_module {n m : Nat} (h : 16 * m + 2 ≤ n) : Fed (pModule n) m 0 := .bind0 (fed_incls n m _ (by omega)) fun l => fed_decls n m _ h
theorem fed_end {α : Type} {p : Gr α} {m : Nat} (h : Fed p m 0) : Fed (pEnd p) m 0 := .bind0 h fun x => .look fun t => .bool (.ret _) (.err _)
theorem module_in {n : Nat} (l : List Tk) (h : 16 * l.length + 2 ≤ n) (hl : l ≠ []) : runG (pEnd (pModule n)) l ≠ .out := fun e => by
  have := fed_end (fed_module h) l hl (Nat.le_refl _)
  rw [e] at this
  exact this
theorem expr_in {n : Nat} (l : List Tk) (h : 16 * l.length + 8 ≤ n) (hl : l ≠ []) : runG (pEnd (pLine n 0 0)) l ≠ .out := fun e => by
  have := fed_end ((fed_line (k := 0) (d := 0) (by omega) (by omega : 16 * l.length + 8 ≤ n + 0)).mono (by omega : 0 ≤ 1)) l hl (Nat.le_refl _)
  rw [e] at this
  exact this
end Go.Proofs.YtaddhpeainliiaaGreatDoor.Id
/-! ## PaEnd -/
namespace Go.Proofs.YtaddhpeainliiaaGreatDoor.Id
open Go
set_option linter.unusedVariables false
/-- a row of tokens that comes to its end -/
def Endy (l : List Tk) : Prop := ∃ p t, l = p ++ [t] ∧ t.k = 0
theorem Endy.tail {t u : Tk} {r : List Tk} (h : Endy (t :: u :: r)) : Endy (u :: r) := by
  obtain ⟨p, z, h1, h2⟩ := h
  cases p with
  | nil => simp at h1
  | cons a p => simp at h1; exact ⟨p, z, h1.2, h2⟩
theorem Endy.one {t : Tk} (h : Endy [t]) : t.k = 0 := by
  obtain ⟨p, z, h1, h2⟩ := h
  cases p with
  | nil => simp at h1; rw [h1]; exact h2
  | cons a p => simp at h1
/-- never wants a token behind the end; and what it refuses -/
def EndR {α : Type} (l0 : List Tk) : Rs α → Prop
  | .more => ¬ Endy l0
  | .ok _ l => l ≠ [] ∧ (Endy l0 → Endy l)
  | .err e l => (e = 140 ∨ e = 141) ∧ l ≠ []
  | .out => True
def GdAt {α : Type} (t : Tk) (p : Gr α) : Prop := ∀ r, EndR (t :: r) (runG p (t :: r))
def Gd {α : Type} (p : Gr α) : Prop := ∀ t, GdAt t p
section
variable {α β : Type} {t : Tk}
theorem Gd.at {p : Gr α} (h : Gd p) : GdAt t p := h t
theorem Gd.ret (x : α) : Gd (.ret x) := fun t r => ⟨by simp, fun h => h⟩
theorem Gd.err (e : Nat) (h : e = 140 ∨ e = 141 := by decide) : Gd (.err e : Gr α) := fun t r => ⟨h, by simp⟩
theorem Gd.out : Gd (.out : Gr α) := fun t r => trivial
theorem Gd.look {f : Tk → Gr α} (h : ∀ t, GdAt t (f t)) : Gd (.look f) := fun t r => h t r
theorem EndR.sub {l0 l1 : List Tk} (h : Endy l0 → Endy l1) : ∀ {r : Rs α}, EndR l1 r → EndR l0 r
  | .more, k => fun e => k (h e)
  | .ok _ _, k => ⟨k.1, fun e => k.2 (h e)⟩
  | .err _ _, k => k
  | .out, k => k
theorem GdAt.next {g : Gr α} (hk : t.k ≠ 0) (h : Gd g) : GdAt t (.next g) := fun r => by
  cases r with
  | nil => exact fun e => hk e.one
  | cons u r => exact EndR.sub Endy.tail (h u r)
theorem GdAt.bool {b : Bool} {p q : Gr α} (h1 : b = true → GdAt t p) (h2 : GdAt t q) : GdAt t (match b with | true => p | false => q) := by
  cases b
  · exact h2
  · exact h1 rfl
theorem Gd.bool {b : Bool} {p q : Gr α} (h1 : Gd p) (h2 : Gd q) : Gd (match b with | true => p | false => q) := by cases b <;> assumption
theorem GdAt.bind {p : Gr α} {f : α → Gr β} (h : GdAt t p) (k : ∀ x, Gd (f x)) : GdAt t (p.bind f) := fun r => by
  have := h r
  rw [runG_bind]
  revert this
  cases runG p (t :: r) with
  | out => exact fun _ => trivial
  | more => exact fun h => h
  | err e r => exact fun h => h
  | ok x l =>
    rintro ⟨h1, h2⟩
    cases l with
    | nil => exact absurd rfl h1
    | cons u l => exact EndR.sub h2 (k x u l)
theorem Gd.bind {p : Gr α} {f : α → Gr β} (h : Gd p) (k : ∀ x, Gd (f x)) : Gd (p.bind f) := fun t => GdAt.bind (h t) k
theorem isT_ke {x : ByteArray} (h : isT t x = true) : t.k ≠ 0 := fun e => by simp [isT, e] at h
theorem isAny_ke {x : List ByteArray} (h : isAny t x = true) : t.k ≠ 0 := fun e => by simp [isAny, e] at h
theorem dec_k {k : Nat} (hk : k ≠ 0) (h : decide (t.k = k) = true) : t.k ≠ 0 := by rw [of_decide_eq_true h]; exact hk
theorem gd_must (x : ByteArray) : Gd (gMust x) := .look fun t => .bool (fun h => .next (isT_ke h) (.ret _)) (Gd.err _).at
theorem gd_of {k : Nat} (hk : k ≠ 0) : Gd (gOf k) := .look fun t => .bool (fun h => .next (dec_k hk h) (.ret _)) (Gd.err _).at
theorem gd_open (x : ByteArray) (d : Nat) : Gd (gOpen x d) := .look fun t => .bool (fun h => .bool (fun _ => (Gd.err _).at) (.next (isT_ke h) (.ret _))) (Gd.err _).at
theorem gd_sep (n : Nat) : Gd (gSep n) := .bool (.bind (gd_must _) fun _ => .ret _) (.ret _)
theorem gd_type : Gd pType := .look fun t => .bool (fun h => .next (isAny_ke h) (.ret _)) (Gd.err _).at
/-- is this next, and then taken? -/
theorem Gd.is {x : ByteArray} {p q : Gr α} (h1 : ∀ t, isT t x = true → GdAt t p) (h2 : Gd q) : Gd ((gIs x).bind fun | true => p | false => q) := fun t r => by
  rw [runG_is]
  cases h : isT t x
  · exact h2 t r
  · exact h1 t h r
theorem Gd.is' {x : ByteArray} {p q : Gr α} (h1 : ∀ t, isT t x = true → GdAt t p) (h2 : Gd q) : Gd ((gIs x).bind fun | false => q | true => p) := fun t r => by
  rw [runG_is]
  cases h : isT t x
  · exact h2 t r
  · exact h1 t h r
end
theorem gdE : ∀ n, (∀ k d, Gd (pLine n k d)) ∧ (∀ k d e, Gd (pTail n k d e)) ∧ (∀ d, Gd (pUnary n d)) ∧ (∀ d, Gd (pPrim n d)) ∧ (∀ d a of nm, Gd (pName n d a of nm)) ∧ (∀ d, Gd (pArgs n d)) ∧ (∀ d l, Gd (pArgl n d l))
  | 0 => ⟨fun _ _ => .out, fun _ _ _ => .out, fun _ => .out, fun _ => .out, fun _ _ _ _ => .out, fun _ => .out, fun _ _ => .out⟩
  | n + 1 => by
    obtain ⟨h1, h2, h3, h4, h5, h6, h7⟩ := gdE n
    refine ⟨fun k d => ?_, fun k d e => ?_, fun d => ?_, fun d => ?_, fun d a of nm => ?_, fun d => ?_, fun d l => ?_⟩
    · rw [pLine]; exact .bool (h3 d) (.bind (h1 _ _) fun e => h2 _ _ _)
    · rw [pTail]; exact .look fun t => .bool (fun h => .next (isAny_ke h) (.bind (h1 _ _) fun e2 => .bool (.ret _) (h2 _ _ _))) (Gd.ret _).at
    · rw [pUnary]; exact .look fun t => .bool (fun h => .bool (fun _ => (Gd.err _).at) (.next (isAny_ke h) (.bind (h3 _) fun e => .ret _))) (h4 d).at
    · rw [pPrim]
      exact .look fun t => .bool (fun h => .next (dec_k (by omega) h) (.ret _)) (.bool (fun h => .next (dec_k (by omega) h) (.ret _)) (.bool (fun h => .next (isAny_ke h) (.ret _)) (.bool (fun _ => .bind (gd_open _ _).at fun _ => .bind (h1 _ _) fun e => .bind (gd_must _) fun _ => .ret _)
        (.bind (gd_of (by omega)).at fun w => .is (fun t h => .next (isT_ke h) (.bind (gd_of (by omega)) fun w2 => h5 _ _ _ _)) (h5 _ _ _ _)))))
    · rw [pName]; exact .is (fun t h => .bind (h6 d).at fun l => .ret _) (.ret _)
    · rw [pArgs]; exact .bind (gd_open _ _) fun _ => h7 _ _
    · rw [pArgl]; exact .is (fun t h => .next (isT_ke h) (.ret _)) (.bind (gd_sep _) fun _ => .bind (h1 _ _) fun e => h7 _ _)
theorem gd_line {n k d : Nat} : Gd (pLine n k d) := (gdE n).1 k d
theorem gd_args {n d : Nat} : Gd (pArgs n d) := (gdE n).2.2.2.2.2.1 d
theorem gd_semi (s : TStmt) : Gd (gSemi s) := .bind (gd_must _) fun _ => .ret _
theorem gd_named {n d : Nat} : Gd (pNamed n d) := .bind (gd_of (by omega)) fun w => .is (fun t h => .next (isT_ke h) (.bind gd_line fun e => .ret _)) (.is (fun t h => .next (isT_ke h) (.bind (gd_of (by omega)) fun w2 => .bind gd_args fun l => .ret _)) (.bind gd_args fun l => .ret _))
theorem gdS : ∀ n, (∀ d, Gd (pBlock n d)) ∧ (∀ d l, Gd (pStmts n d l)) ∧ (∀ d, Gd (pStmt n d)) ∧ (∀ d, Gd (pBranch n d))
  | 0 => ⟨fun _ => .out, fun _ _ => .out, fun _ => .out, fun _ => .out⟩
  | n + 1 => by
    obtain ⟨h1, h2, h3, h4⟩ := gdS n
    refine ⟨fun d => ?_, fun d l => ?_, fun d => ?_, fun d => ?_⟩
    · rw [pBlock]; exact .bind (gd_open _ _) fun _ => h2 _ _
    · rw [pStmts]; exact .is (fun t h => .next (isT_ke h) (.ret _)) (.bind (h3 d) fun s => h2 _ _)
    · rw [pStmt]
      exact .look fun t => .bool (fun h => .next (isT_ke h) (.bind (gd_of (by omega)) fun w => .bind (gd_must _) fun _ => .bind gd_line fun e => gd_semi _)) (.bool (fun _ => (h4 d).at) (.bool (fun h => .next (isT_ke h) (.bind gd_line fun e => .bind (h1 d) fun b => .ret _))
        (.bool (fun h => .next (isT_ke h) (.is (fun t _ => (gd_semi _).at) (.bind gd_line fun e => gd_semi _))) (.bool (fun h => .next (isT_ke h) (.bind gd_line fun e => gd_semi _)) (.bind gd_named.at fun x => gd_semi _)))))
    · rw [pBranch]
      exact .bind (gd_must _) fun a => .bind gd_line fun e => .bind (h1 d) fun b => .is' (fun t h => .next (isT_ke h) (.is (fun t _ => .bind (h4 d).at fun s => .ret _) (.bind (h1 d) fun l => .ret _))) (.ret _)
theorem gd_block {n d : Nat} : Gd (pBlock n d) := (gdS n).1 d
theorem gd_param : Gd pParam := .bind (gd_of (by omega)) fun w => .bind (gd_must _) fun _ => .bind gd_type fun t => .ret _
theorem gd_params : ∀ n l, Gd (pParams n l)
  | 0, l => .out
  | n + 1, l => by rw [pParams]; exact .is (fun t h => .next (isT_ke h) (.ret _)) (.bind (gd_sep _) fun _ => .bind gd_param fun x => gd_params n _)
theorem gd_func {n : Nat} {ex : Bool} : Gd (pFunc n ex) := .bind (gd_must _) fun _ => .bind (gd_of (by omega)) fun w => .bind (gd_open _ _) fun _ => .bind (gd_params _ _) fun ps => .is (fun t h => .next (isT_ke h) (.bind gd_type fun t => .bind gd_block fun b => .ret _)) (.bind gd_block fun b => .ret _)
theorem gd_const {n : Nat} {ex : Bool} : Gd (pConst n ex) := .bind (gd_must _) fun _ => .bind (gd_of (by omega)) fun w => .bind (gd_must _) fun _ => .bind gd_line fun e => .bind (gd_must _) fun _ => .ret _
theorem gd_incl : Gd pIncl := .bind (gd_must _) fun _ => .bind (gd_of (by omega)) fun w => .bind (gd_must _) fun _ => .bind (gd_of (by omega)) fun e => .bind (gd_must _) fun _ => .ret _
theorem gd_incls : ∀ n l, Gd (pIncls n l)
  | 0, l => .out
  | n + 1, l => by rw [pIncls]; exact .is (fun t h => .bind gd_incl.at fun x => gd_incls n _) (.ret _)
theorem gd_decl {k : TMod → Gr TMod} {n : Nat} {ex : Bool} {md : TMod} (hk : ∀ md, Gd (k md)) : Gd (pDecl k n ex md) :=
  .look fun t => .bool (fun _ => .bind gd_const.at fun c => hk _) (.bool (fun _ => .bind gd_func.at fun f => hk _) (Gd.err _).at)
theorem gd_decls : ∀ n md, Gd (pDecls n md)
  | 0, md => .out
  | n + 1, md => by rw [pDecls]; exact .look fun t => .bool (fun _ => (Gd.ret _).at) (.bool (fun h => .next (isT_ke h) (gd_decl fun md => gd_decls n _)) (gd_decl fun md => gd_decls n _).at)
theorem gd_module {n : Nat} : Gd (pModule n) := .bind (gd_incls n _) fun l => gd_decls n _
theorem gd_end {α : Type} {p : Gr α} (h : Gd p) : Gd (pEnd p) := .bind h fun x => .look fun t => .bool (fun _ => (Gd.ret _).at) (Gd.err _).at
end Go.Proofs.YtaddhpeainliiaaGreatDoor.Id
/-! ## PaOut -/
namespace Go.Proofs.YtaddhpeainliiaaGreatDoor.Id
open Go
set_option linter.unusedVariables false
set_option linter.unusedSimpArgs false
variable {X : Given}
theorem chain_det {s : ByteArray} {i b : Nat} {l l' : List Tk} {f f' : Nat × Nat} (h : Chain s i b l f) (h' : Chain s i b l' f') : l = l' ∧ (f = f' ∨ Endy l) := by
  induction h generalizing l' f' with
  | bad h1 =>
    cases h' with
    | bad _ => exact ⟨rfl, .inl rfl⟩
    | fin h2 _ => exact absurd h2 h1
    | out h2 _ => exact absurd h2 h1
    | tok h2 _ _ => exact absurd h2 h1
  | fin h1 h2 =>
    cases h' with
    | bad h => exact absurd h1 h
    | fin _ _ => exact ⟨rfl, .inr ⟨[], _, rfl, h2⟩⟩
    | out _ h => exact absurd h2 h
    | tok _ h _ => exact absurd h2 h
  | out h1 h2 =>
    cases h' with
    | bad h => exact absurd h1 h
    | fin _ h => exact absurd h h2
    | out _ _ => exact ⟨rfl, .inl rfl⟩
  | tok h1 h2 h3 ih =>
    cases h' with
    | bad h => exact absurd h1 h
    | fin _ h => exact absurd h h2
    | tok _ _ h =>
      obtain ⟨rfl, h5⟩ := ih h
      exact ⟨rfl, h5.imp id fun ⟨p, t, h6, h7⟩ => ⟨_ :: p, t, by rw [h6]; rfl, h7⟩⟩
/-- the tokens come to the end, or there is a fault -/
theorem chain_f {s : ByteArray} {i b : Nat} {l : List Tk} {f : Nat × Nat} (h : Chain s i b l f) : (l ≠ [] ∧ Endy l) ∨ f.1 ≠ 0 := by
  induction h with
  | bad h1 => exact .inr h1
  | fin h1 h2 => exact .inl ⟨by simp, [], _, rfl, h2⟩
  | out h1 h2 => exact .inr (fun h => by cases h)
  | tok h1 h2 h3 ih => exact ih.imp (fun ⟨_, p, t, h6, h7⟩ => ⟨by simp, _ :: p, t, by rw [h6]; rfl, h7⟩) id
theorem chain_len {s : ByteArray} {i b : Nat} {l : List Tk} {f : Nat × Nat} (h : Chain s i b l f) : i ≤ s.size → l.length ≤ s.size - i + 1 := by
  induction h with
  | bad h1 => intro _; simp
  | fin h1 h2 => intro _; simp
  | out h1 h2 => intro _; simp
  | @tok i b l f h1 h2 h3 ih =>
    intro hi
    have := nx_adv (L s) i (by rw [L_length]; exact hi) h1 h2
    rw [L_length] at this
    have := ih (by omega)
    simp only [List.length_cons]
    omega
/-- a reading's tree and fault -/
def Answ {α : Type} (z : α) (f : Nat × Nat) : Rs α → Nat × Nat → α → Prop
  | .ok x _, g, y => g = (0, 0) ∧ y = x
  | .more, g, y => g = f ∧ f.1 ≠ 0 ∧ y = z
  | .err e l, g, y => (e = 140 ∨ e = 141) ∧ y = z ∧ ∃ t r, l = t :: r ∧ g = (e, t.a)
  | .out, _, _ => False
abbrev bigN : Nat := 100000000
abbrev md0 : TMod := ⟨[], [], []⟩
abbrev ex0 : TExpr := .mk 0 0 .empty .empty ⟨0, 0, false, .empty⟩ 0 []
theorem runL_more {α : Type} {p : Gr α} (hp : Gd p) {s : ByteArray} {b : Nat} {l : List Tk} {f : Nat × Nat} (hc : Chain s 0 b l f) (h : runL p l = .more) : f.1 ≠ 0 := by
  rcases chain_f hc with ⟨h1, h2⟩ | h1
  · cases l with
    | nil => exact absurd rfl h1
    | cons t r =>
      have := hp t r
      rw [show runG p (t :: r) = .more from h] at this
      exact absurd h2 this
  · exact h1
theorem runL_err {α : Type} {p : Gr α} (hp : Gd p) {l l' : List Tk} {e : Nat} (h : runL p l = .err e l') : e = 140 ∨ e = 141 := by
  cases l with
  | nil => cases h
  | cons t r =>
    have := hp t r
    rw [show runG p (t :: r) = .err e l' from h] at this
    exact this.1
theorem module_does (hX : LibX X) {s : ByteArray} {F : Int} (hs : s.size ≤ 65536) (hF : F ≤ 9223372036854775807) {l : List Tk} {f : Nat × Nat} (hc : Chain s 0 F.toNat l f) :
    ∃ g m, Answ md0 f (runL (pEnd (pModule bigN)) l) g m ∧ Does (OrX X) 26 [vS s, vI F] [] (.ret (.tuple [.agg (mD m), .agg [cZ g.1, cZ g.2]]) []) := by
  have hlen := chain_len hc (by omega)
  have hne : runL (pEnd (pModule bigN)) l ≠ .out := by
    cases l with
    | nil => exact fun h => by cases h
    | cons t r => exact module_in _ (by show _ ≤ 100000000; omega) (by simp)
  obtain ⟨T, e, q, cs', h1, h2⟩ := read_mod hX ⟨s, F.toNat, l.length, f, hs, by omega⟩ (F := F) (mx_nat F) (n := bigN) (by decide) hc rfl hne
  cases hr : runL (pEnd (pModule bigN)) l with
  | ok m r =>
    rw [hr] at h1
    obtain ⟨_, rfl, rfl, rfl⟩ := h1
    exact ⟨(0, 0), m, ⟨rfl, rfl⟩, t_mod_ok h2⟩
  | more =>
    rw [hr] at h1
    obtain ⟨_, rfl, rfl, h3⟩ := h1
    have := runL_more (gd_end gd_module) hc hr
    exact ⟨f, md0, ⟨rfl, this, rfl⟩, t_mod_err h2 h3 (.inl (by simpa using this))⟩
  | err c r =>
    rw [hr] at h1
    obtain ⟨t, r', rfl, _, rfl, rfl, h3⟩ := h1
    have := runL_err (gd_end gd_module) hr
    exact ⟨(c, t.a), md0, ⟨this, rfl, t, r', rfl, rfl⟩, t_mod_err h2 h3 (.inl (by omega))⟩
  | out => exact absurd hr hne
theorem module_big {s : ByteArray} {F : Int} (hs : 65536 < s.size) : Does (OrX X) 26 [vS s, vI F] [] (.ret (.tuple [.agg (mD md0), .agg [cZ 3, cZ 0]]) []) :=
  t_mod_err (big_mod hs) (.inl rfl) (.inl (by decide))
end Go.Proofs.YtaddhpeainliiaaGreatDoor.Id
/-! ## DenExt -/
namespace Go.Proofs.YtaddhpeainliiaaGreatDoor.Id
open Go
set_option linter.unusedVariables false
set_option linter.unusedSimpArgs false
/-- what may stand behind a token: nothing, or a blank -/
def Blank (u : List UInt8) : Prop := u = [] ∨ ∃ t, u = 32 :: t
theorem blank_tw (p : UInt8 → Bool) (hp : p 32 = false) (u : List UInt8) (hu : Blank u) : u.takeWhile p = [] := by
  rcases hu with rfl | ⟨t, rfl⟩
  · rfl
  · rw [List.takeWhile_cons, hp]; rfl
theorem tw_ext (p : UInt8 → Bool) (hp : p 32 = false) (u : List UInt8) (hu : Blank u) : ∀ l : List UInt8, l.all p = true → (l ++ u).takeWhile p = l
  | [], _ => blank_tw p hp u hu
  | c :: r, h => by
    rw [List.all_cons, Bool.and_eq_true] at h
    rw [List.cons_append, List.takeWhile_cons, if_pos h.1, tw_ext p hp u hu r h.2]
theorem pc_ext {l u : List UInt8} {b : UInt8} {n : Nat} (h : pc l = some (b, n)) : pc (l ++ u) = some (b, n) := by
  cases l with
  | nil => cases h
  | cons c r =>
    rw [List.cons_append]
    simp only [pc] at h ⊢
    by_cases h1 : c.toNat = 92
    · rw [if_pos h1] at h ⊢
      cases r with
      | nil => cases h
      | cons d r =>
        simp only at h
        rw [List.cons_append]
        simp only
        by_cases d1 : d.toNat = 110
        · rw [if_pos d1] at h ⊢; exact h
        rw [if_neg d1] at h ⊢
        by_cases d2 : d.toNat = 116
        · rw [if_pos d2] at h ⊢; exact h
        rw [if_neg d2] at h ⊢
        by_cases d3 : d.toNat = 34 ∨ d.toNat = 92
        · rw [if_pos d3] at h ⊢; exact h
        rw [if_neg d3] at h ⊢
        by_cases d4 : d.toNat = 120
        · rw [if_pos d4] at h ⊢
          match r, h with
          | [], h => cases h
          | [a], h => cases h
          | a :: b' :: r, h => exact h
        · rw [if_neg d4] at h; cases h
    · rw [if_neg h1] at h ⊢; exact h
theorem ql_ext : ∀ (f : Nat) (l u t : List UInt8) (q : Nat), ql f l = some (t, q) → ql f (l ++ u) = some (t, q)
  | 0, l, u, t, q, h => by cases h
  | f + 1, [], u, t, q, h => by cases h
  | f + 1, c :: r, u, t, q, h => by
    rw [List.cons_append]
    unfold ql at h ⊢
    by_cases h1 : c.toNat = 34
    · rw [if_pos h1] at h ⊢; exact h
    rw [if_neg h1] at h ⊢
    cases hp : pc (c :: r) with
    | none => rw [hp] at h; cases h
    | some z =>
      obtain ⟨b, n⟩ := z
      have hn := (pc_pos hp).2
      rw [hp] at h
      simp only at h
      cases hx : ql f ((c :: r).drop n) with
      | none => rw [hx] at h; cases h
      | some z =>
        obtain ⟨t', q'⟩ := z
        rw [hx] at h
        have hp' := pc_ext (u := u) hp
        rw [List.cons_append] at hp'
        rw [hp']
        simp only
        have e : (c :: (r ++ u)).drop n = (c :: r).drop n ++ u := by rw [← List.cons_append, List.drop_append_of_le_length hn]
        rw [e, ql_ext f _ u t' q' hx]
        exact h
theorem quo_ext {r t u : List UInt8} {n : Nat} (h : quo r = some (t, n)) : quo (r ++ u) = some (t, n) := by
  unfold quo at h ⊢
  cases hx : ql (r.length + 1) r with
  | none => rw [hx] at h; cases h
  | some z =>
    obtain ⟨t', q⟩ := z
    rw [hx] at h
    have h1 := ql_ext _ r u t' q (show ql ((r ++ u).length + 1) r = some (t', q) by rw [← hx]; exact ql_fuel _ _ r (by rw [List.length_append]; omega) (by omega))
    rw [h1]; exact h
theorem sgn_two : ∀ c : UInt8, [c, 32] ∉ twoSigns := by
  intro c h
  unfold twoSigns at h
  simp at h
theorem sgn_ext (l u : List UInt8) (h : sgn l ≠ 0) (hu : Blank u) (hl : l ≠ []) : sgn (l.take (sgn l) ++ u) = sgn l := by
  cases l with
  | nil => exact absurd rfl hl
  | cons c r =>
    by_cases ht : (c :: r).take 2 ∈ twoSigns
    · have e : sgn (c :: r) = 2 := by unfold sgn; rw [if_pos ht]
      have h2 := two_len _ ht
      rw [e]
      have e3 : ((c :: r).take 2 ++ u).take 2 = (c :: r).take 2 := by rw [List.take_append_of_le_length (by omega), List.take_take]; rfl
      unfold sgn
      rw [e3, if_pos ht]
    · have e : sgn (c :: r) = 1 := by
        unfold sgn at h ⊢
        rw [if_neg ht] at h ⊢
        simp only at h ⊢
        split
        · rfl
        · rename_i hx; rw [if_neg hx] at h; exact absurd rfl h
      have hc : c ∈ oneSigns := by
        unfold sgn at e
        rw [if_neg ht] at e
        simp only at e
        split at e
        · assumption
        · cases e
      rw [e]
      show sgn (c :: ([] ++ u)) = 1
      rw [List.nil_append]
      unfold sgn
      have h2 : ¬ (c :: u).take 2 ∈ twoSigns := by
        rcases hu with rfl | ⟨t, rfl⟩
        · intro hx; have := two_len _ hx; simp at this
        · exact sgn_two c
      rw [if_neg h2]
      simp only
      rw [if_pos hc]
/-- a token is itself with a blank behind it -/
theorem tok_ext (l u : List UInt8) (h : (tok l).2.2 = 0) (hu : Blank u) : tok (l.take (tok l).2.1 ++ u) = tok l := by
  have hpos := (tok_ok l h).1
  have hle := tok_le l
  cases l with
  | nil => cases h
  | cons c r =>
    change (tokC c r).2.2 = 0 at h
    change 1 ≤ (tokC c r).2.1 at hpos
    show tok ((c :: r).take (tokC c r).2.1 ++ u) = tokC c r
    obtain ⟨m, hm⟩ : ∃ m, (tokC c r).2.1 = m + 1 := ⟨(tokC c r).2.1 - 1, by omega⟩
    have hw32 : isW 32 = false := by decide
    have hd32 : isD 32 = false := by decide
    rw [hm, List.take_succ_cons, List.cons_append]
    show tokC c (r.take m ++ u) = tokC c r
    have et : c :: (r.take m ++ u) = (c :: r).take (m + 1) ++ u := by rw [List.take_succ_cons, List.cons_append]
    unfold tokC at h hm ⊢
    rw [et]
    by_cases h1 : isL c = true
    · rw [if_pos h1] at h hm ⊢
      rw [if_pos h1]
      have hn : ((c :: r).takeWhile isW).length = m + 1 := by
        by_cases h2 : 32 < ((c :: r).takeWhile isW).length
        · rw [if_pos h2] at h; cases h
        rw [if_neg h2] at hm
        split at hm <;> exact hm
      have htk := tw_take isW (c :: r)
      rw [hn] at htk
      have hext := tw_ext isW hw32 u hu ((c :: r).take (m + 1)) (by rw [htk]; exact tw_all isW _)
      have hlen : ((c :: r).take (m + 1)).length = m + 1 := by rw [htk]; exact hn
      rw [hext, hlen, hn, List.take_append_of_le_length (by omega), List.take_take, Nat.min_self]
    rw [if_neg h1] at h hm ⊢
    rw [if_neg h1]
    by_cases h2 : isD c = true
    · rw [if_pos h2] at h hm ⊢
      rw [if_pos h2]
      by_cases h3 : (numOk ((c :: r).take ((c :: r).takeWhile isD).length) && !headL ((c :: r).drop ((c :: r).takeWhile isD).length)) = true
      · rw [if_pos h3] at hm ⊢
        have hn : ((c :: r).takeWhile isD).length = m + 1 := hm
        have htk := tw_take isD (c :: r)
        rw [hn] at htk h3
        have hext := tw_ext isD hd32 u hu ((c :: r).take (m + 1)) (by rw [htk]; exact tw_all isD _)
        have hlen : ((c :: r).take (m + 1)).length = m + 1 := by rw [htk]; exact hn
        rw [hext, hlen, hn, List.take_append_of_le_length (by omega), List.take_take, Nat.min_self]
        rw [Bool.and_eq_true] at h3
        have hh : headL (((c :: r).take (m + 1) ++ u).drop (m + 1)) = false := by
          rw [List.drop_append_of_le_length (by omega), List.drop_eq_nil_of_le (by omega), List.nil_append]
          rcases hu with rfl | ⟨t, rfl⟩
          · rfl
          · show isL 32 = false; decide
        rw [hh, h3.1]; rfl
      · rw [if_neg h3] at h; cases h
    rw [if_neg h2] at h hm ⊢
    rw [if_neg h2]
    by_cases h3 : c.toNat = 34
    · rw [if_pos h3] at h hm ⊢
      rw [if_pos h3]
      cases hq : quo r with
      | none => rw [hq] at h; cases h
      | some z =>
        obtain ⟨t, n⟩ := z
        rw [hq] at hm
        rw [quo_ext (quo_cut (m := m) hq (by simp only at hm; omega))]
    rw [if_neg h3] at h hm ⊢
    rw [if_neg h3]
    by_cases h4 : sgn (c :: r) = 0
    · rw [if_pos h4] at h; cases h
    rw [if_neg h4] at hm ⊢
    simp only at hm
    have e := sgn_ext (c :: r) u h4 hu (by simp)
    rw [hm] at e
    rw [e, hm, if_neg (by omega)]
/-- no gap ahead of it, then none ahead of it with a blank behind it -/
theorem gap_ext (l u : List UInt8) (n : Nat) (hn : 1 ≤ n) (hl : l ≠ []) (hg : gapL false l = 0) (hu : Blank u) : gapL false (l.take n ++ u) = 0 := by
  cases l with
  | nil => exact absurd rfl hl
  | cons c r =>
    obtain ⟨m, rfl⟩ : ∃ m, n = m + 1 := ⟨n - 1, by omega⟩
    rw [List.take_succ_cons, List.cons_append]
    unfold gapL at hg ⊢
    by_cases h1 : isSp c = true
    · rw [if_pos h1] at hg; omega
    rw [if_neg h1] at hg ⊢
    by_cases h2 : (isSl c && headSl r) = true
    · rw [if_pos h2] at hg; omega
    have h3 : ¬ (isSl c && headSl (r.take m ++ u)) = true := by
      rw [Bool.and_eq_true] at h2 ⊢
      intro ⟨ha, hb⟩
      apply h2
      refine ⟨ha, ?_⟩
      cases m with
      | zero =>
        rw [List.take_zero, List.nil_append] at hb
        rcases hu with rfl | ⟨t, rfl⟩
        · cases hb
        · exact absurd hb (by show ¬ isSl 32 = true; decide)
      | succ m =>
        cases r with
        | nil =>
          rw [List.take_nil, List.nil_append] at hb
          rcases hu with rfl | ⟨t, rfl⟩
          · cases hb
          · exact absurd hb (by show ¬ isSl 32 = true; decide)
        | cons d r => exact hb
    rw [if_neg h3]
end Go.Proofs.YtaddhpeainliiaaGreatDoor.Id
/-! ## DenApp -/
namespace Go.Proofs.YtaddhpeainliiaaGreatDoor.Id
open Go
set_option linter.unusedVariables false
set_option linter.unusedSimpArgs false
theorem tw_app (p : UInt8 → Bool) (hp : p 32 = false) (u : List UInt8) (hu : Blank u) : ∀ l : List UInt8, (l ++ u).takeWhile p = l.takeWhile p
  | [] => blank_tw p hp u hu
  | c :: r => by
    rw [List.cons_append, List.takeWhile_cons, List.takeWhile_cons, tw_app p hp u hu r]
theorem headL_app (x u : List UInt8) (hu : Blank u) : headL (x ++ u) = headL x := by
  cases x with
  | cons c r => rfl
  | nil =>
    rcases hu with rfl | ⟨t, rfl⟩
    · rfl
    · show isL 32 = false; decide
theorem sgn_app (l u : List UInt8) (h : sgn l ≠ 0) (hu : Blank u) : sgn (l ++ u) = sgn l := by
  match l with
  | [] => exact absurd rfl h
  | [c] =>
    have := sgn_ext [c] u h hu (by simp)
    rwa [List.take_of_length_le (by simp; omega)] at this
  | c :: d :: r => rfl
theorem tok_app (l u : List UInt8) (h : (tok l).2.2 = 0) (hu : Blank u) : tok (l ++ u) = tok l := by
  cases l with
  | nil => cases h
  | cons c r =>
    change (tokC c r).2.2 = 0 at h
    show tokC c (r ++ u) = tokC c r
    have hw32 : isW 32 = false := by decide
    have hd32 : isD 32 = false := by decide
    have et : c :: (r ++ u) = (c :: r) ++ u := rfl
    have lw := tw_app isW hw32 u hu (c :: r)
    have ld := tw_app isD hd32 u hu (c :: r)
    have nw : ((c :: r).takeWhile isW).length ≤ (c :: r).length := (List.takeWhile_sublist _).length_le
    have nd : ((c :: r).takeWhile isD).length ≤ (c :: r).length := (List.takeWhile_sublist _).length_le
    unfold tokC at h ⊢
    rw [et]
    by_cases h1 : isL c = true
    · rw [if_pos h1, if_pos h1, lw, List.take_append_of_le_length nw]
    rw [if_neg h1] at h
    rw [if_neg h1, if_neg h1]
    by_cases h2 : isD c = true
    · rw [if_pos h2, if_pos h2, ld, List.take_append_of_le_length nd, List.drop_append_of_le_length nd, headL_app _ _ hu]
    rw [if_neg h2] at h
    rw [if_neg h2, if_neg h2]
    by_cases h3 : c.toNat = 34
    · rw [if_pos h3] at h
      rw [if_pos h3, if_pos h3]
      cases hq : quo r with
      | none => rw [hq] at h; cases h
      | some z =>
        obtain ⟨t, n⟩ := z
        rw [quo_ext hq]
    rw [if_neg h3] at h
    rw [if_neg h3, if_neg h3]
    by_cases h4 : sgn (c :: r) = 0
    · rw [if_pos h4] at h; cases h
    rw [sgn_app _ _ h4 hu]
theorem headSl_app (x u : List UInt8) (hu : Blank u) : headSl (x ++ u) = headSl x := by
  cases x with
  | cons c r => rfl
  | nil =>
    rcases hu with rfl | ⟨t, rfl⟩
    · rfl
    · show isSl 32 = false; decide
theorem gap_app (u : List UInt8) (hu : Blank u) : ∀ (l : List UInt8) (st : Bool), gapL st l < l.length → gapL st (l ++ u) = gapL st l
  | [], st, h => absurd h (Nat.not_lt_zero _)
  | c :: r, true, h => by
    rw [List.cons_append]
    unfold gapL at h ⊢
    simp only [List.length_cons] at h
    split
    · rename_i h1; rw [if_pos h1] at h; rw [gap_app u hu r false (by omega)]
    · rename_i h1; rw [if_neg h1] at h; rw [gap_app u hu r true (by omega)]
  | c :: r, false, h => by
    rw [List.cons_append]
    unfold gapL at h ⊢
    simp only [List.length_cons] at h
    rw [headSl_app _ _ hu]
    split
    · rename_i h1; rw [if_pos h1] at h; rw [gap_app u hu r false (by omega)]
    · rename_i h1
      rw [if_neg h1] at h
      split
      · rename_i h2; rw [if_pos h2] at h; rw [gap_app u hu r true (by omega)]
      · rfl
/-- the next token of a text is that of the longer text -/
theorem nx_app (l u : List UInt8) (hu : Blank u) (i : Nat) (hi : i ≤ l.length) (he : (nx l i).2.2.2 = 0) (hk : (nx l i).1 ≠ 0) : nx (l ++ u) i = nx l i := by
  have h1 := nx_fr l i
  obtain ⟨h2, h3, h4⟩ := nx_tok l i he hk
  have hadv := nx_adv l i hi he hk
  have hg : gapL false ((l ++ u).drop i) = gapL false (l.drop i) := by
    rw [List.drop_append_of_le_length hi]
    exact gap_app u hu _ _ (by rw [List.length_drop]; omega)
  have ht : tok ((l ++ u).drop (i + gapL false (l.drop i))) = tok (l.drop (i + gapL false (l.drop i))) := by
    rw [← h1, List.drop_append_of_le_length (by omega)]
    exact tok_app _ _ (by rw [h4]) hu
  have hne : ¬ i + gapL false (l.drop i) = l.length := by omega
  have hne' : ¬ i + gapL false (l.drop i) = (l ++ u).length := by rw [List.length_append]; omega
  unfold nx
  rw [hg, ht, if_neg hne, if_neg hne']
/-- a token's own start leads to it -/
theorem nx_start (l : List UInt8) (i : Nat) (he : (nx l i).2.2.2 = 0) (hk : (nx l i).1 ≠ 0) : nx l (nx l i).2.1 = nx l i := by
  have h1 := nx_fr l i
  obtain ⟨h2, h3, h4⟩ := nx_tok l i he hk
  generalize hq : (nx l i).2.1 = q at *
  have : nx l q = nx l i := by
    unfold nx
    rw [h2, Nat.add_zero, ← h1]
  exact this
/-- a text that ends with a token, then a blank and any other: the tokens up to it -/
theorem nx_glue (l u : List UInt8) (hu : Blank u) (p i : Nat) (hp : p ≤ l.length) (hi : i ≤ l.length) (he : (nx l i).2.2.2 = 0) (hk : (nx l i).1 ≠ 0) (hb : (nx l i).2.2.1 ≤ p) : nx (l.take p ++ u) i = nx l i := by
  have hadv := nx_adv l i hi he hk
  have h1 := nx_cut l i p hp he hk hb hi
  rw [← h1]
  exact nx_app _ _ hu i (by rw [List.length_take]; omega) (by rw [h1]; exact he) (by rw [h1]; exact hk)
end Go.Proofs.YtaddhpeainliiaaGreatDoor.Id
/-! ## PaCut -/
namespace Go.Proofs.YtaddhpeainliiaaGreatDoor.Id
open Go
set_option linter.unusedVariables false
set_option linter.unusedSimpArgs false
/-- a refusal at a token does not hang on what is behind it -/
theorem runG_cut {α : Type} {p : Gr α} : ∀ {l r : List Tk} {t : Tk} {c : Nat}, runG p l = .err c (t :: r) → ∃ pre, l = pre ++ t :: r ∧ ∀ r', runG p (pre ++ t :: r') = .err c (t :: r') := by
  induction p with
  | ret x => intro l r t c h; cases h
  | look f ih =>
    intro l r t c h
    cases l with
    | nil => cases h
    | cons z y =>
      obtain ⟨pre, h1, h2⟩ := ih z (l := z :: y) h
      refine ⟨pre, h1, fun r' => ?_⟩
      have h3 := h2 r'
      cases pre with
      | nil => simp only [List.nil_append, List.cons.injEq] at h1 h3 ⊢; obtain ⟨rfl, _⟩ := h1; exact h3
      | cons a pre => simp only [List.cons_append, List.cons.injEq] at h1 h3 ⊢; obtain ⟨rfl, _⟩ := h1; exact h3
  | next g ih =>
    intro l r t c h
    match l with
    | [] => cases h
    | [z] => cases h
    | z :: y :: w =>
      obtain ⟨pre, h1, h2⟩ := ih (l := y :: w) h
      refine ⟨z :: pre, by rw [h1]; rfl, fun r' => ?_⟩
      have h3 := h2 r'
      cases pre with
      | nil => exact h3
      | cons a pre => exact h3
  | err e => intro l r t c h; cases h; exact ⟨[], rfl, fun r' => rfl⟩
  | out => intro l r t c h; cases h
theorem chain_ge {s : ByteArray} {i b : Nat} {l : List Tk} {f : Nat × Nat} (h : Chain s i b l f) : i ≤ s.size → ∀ t ∈ l, i ≤ t.a ∧ t.a + t.s.size ≤ s.size := by
  induction h with
  | bad h1 => intro _ t ht; cases ht
  | out h1 h2 => intro _ t ht; cases ht
  | @fin i b f h1 h2 =>
    intro hi t ht
    rw [List.mem_singleton] at ht
    subst ht
    have := tkAt_to s i hi h1
    have h3 := nx_fr (L s) i
    have h4 : (tkAt s i).a = (nx (L s) i).2.1 := rfl
    omega
  | @tok i b l f h1 h2 h3 ih =>
    intro hi t ht
    have h5 := tkAt_to s i hi h1
    have hadv := nx_adv (L s) i (by rw [L_length]; exact hi) h1 h2
    have h4 : (tkAt s i).a = (nx (L s) i).2.1 := rfl
    rcases List.mem_cons.1 ht with rfl | ht
    · omega
    · have := ih h5.2 t ht
      omega
theorem tkAt_eq {s s' : ByteArray} {u : List UInt8} {p i : Nat} (hL : L s' = (L s).take p ++ u) (hp : p ≤ s.size) (hn : nx (L s') i = nx (L s) i) (hb : (nx (L s) i).2.2.1 ≤ p) : tkAt s' i = tkAt s i := by
  unfold tkAt
  rw [hn]
  have : s'.extract (nx (L s) i).2.1 (nx (L s) i).2.2.1 = s.extract (nx (L s) i).2.1 (nx (L s) i).2.2.1 := by
    apply L_inj
    rw [L_extract, L_extract, hL]
    generalize (nx (L s) i).2.1 = a at *
    generalize (nx (L s) i).2.2.1 = b at *
    have hl : (L s).length = s.size := L_length s
    by_cases h : a ≤ p
    · rw [List.drop_append_of_le_length (by rw [List.length_take]; omega), List.take_append_of_le_length (by rw [List.length_drop, List.length_take]; omega), List.drop_take, List.take_take]
      congr 1; omega
    · rw [show b - a = 0 by omega]; simp
  rw [this]
/-- the tokens up to one, of a text that goes on otherwise behind it -/
theorem chain_glue {s s' : ByteArray} {u : List UInt8} {t : Tk} (hu : Blank u) (hL : L s' = (L s).take (t.a + t.s.size) ++ u) (hk : t.k ≠ 0) : ∀ (pre : List Tk) {r : List Tk} {i b : Nat} {f : Nat × Nat}, i ≤ s.size → Chain s i b (pre ++ t :: r) f → ∃ r' f', Chain s' i b (pre ++ t :: r') f'
  | pre, r, i, b, f, hi, h => by
    have hge := chain_ge h hi t (by simp)
    have hlen : s'.size = t.a + t.s.size + u.length := by rw [← L_length, hL, List.length_append, List.length_take, L_length]; omega
    generalize hl : pre ++ t :: r = l at h
    cases h with
    | bad h1 => simp at hl
    | out h1 h2 => simp at hl
    | fin h1 h2 =>
      cases pre with
      | nil => simp at hl; exact absurd (by rw [hl.1]; exact h2) hk
      | cons a pre => simp at hl
    | @tok i b l f h1 h2 h3 =>
      have h5 := tkAt_to s i hi h1
      have hadv := nx_adv (L s) i (by rw [L_length]; exact hi) h1 h2
      have hto : (nx (L s) i).2.2.1 ≤ t.a + t.s.size := by
        cases pre with
        | nil => simp at hl; rw [hl.1]; omega
        | cons a pre =>
          simp at hl
          have := chain_ge h3 h5.2 t (by rw [← hl.2]; simp)
          omega
      have hn : nx (L s') i = nx (L s) i := by
        rw [hL]
        exact nx_glue _ _ hu _ _ (by rw [L_length]; exact hge.2) (by rw [L_length]; exact hi) h1 h2 hto
      have ht := tkAt_eq hL hge.2 hn hto
      have h1' : (nx (L s') i).2.2.2 = 0 := by rw [hn]; exact h1
      have h2' : (nx (L s') i).1 ≠ 0 := by rw [hn]; exact h2
      cases pre with
      | nil =>
        simp at hl
        obtain ⟨r', f', h6⟩ := chain_ex s' (s'.size - (nx (L s) i).2.2.1 + 1) (nx (L s') i).2.2.1 b (by rw [hn]; omega) (by rw [hn]; omega)
        refine ⟨r', f', ?_⟩
        rw [hl.1, ← ht]
        exact .tok h1' h2' h6
      | cons a pre =>
        simp at hl
        obtain ⟨r', f', h6⟩ := chain_glue hu hL hk pre (i := (nx (L s) i).2.2.1) (b := b) (r := r) (f := f) h5.2 (by rw [hl.2]; exact h3)
        refine ⟨r', f', ?_⟩
        rw [hl.1, ← ht]
        exact .tok h1' h2' (by rw [hn]; exact h6)
termination_by pre => pre.length
end Go.Proofs.YtaddhpeainliiaaGreatDoor.Id
/-! ## PaNx -/
namespace Go.Proofs.YtaddhpeainliiaaGreatDoor.Id
open Go
set_option linter.unusedVariables false
set_option linter.unusedSimpArgs false
theorem tok_code (l : List UInt8) : (tok l).2.2 = 0 ∨ (tok l).2.2 = 120 ∨ (tok l).2.2 = 121 ∨ (tok l).2.2 = 122 ∨ (tok l).2.2 = 123 := by
  cases l with
  | nil => exact .inr (.inl rfl)
  | cons c r =>
    show (tokC c r).2.2 = 0 ∨ _
    change (tokC c r).2.2 = 0 ∨ (tokC c r).2.2 = 120 ∨ (tokC c r).2.2 = 121 ∨ (tokC c r).2.2 = 122 ∨ (tokC c r).2.2 = 123
    unfold tokC
    repeat' split
    all_goals simp
theorem nx_code (l : List UInt8) (i : Nat) : (nx l i).2.2.2 = 0 ∨ (nx l i).2.2.2 = 120 ∨ (nx l i).2.2.2 = 121 ∨ (nx l i).2.2.2 = 122 ∨ (nx l i).2.2.2 = 123 := by
  unfold nx
  split
  · exact .inl rfl
  · split
    · exact .inl rfl
    · exact tok_code _
theorem chain_code {s : ByteArray} {i b : Nat} {l : List Tk} {f : Nat × Nat} (h : Chain s i b l f) : (Endy l ∧ l ≠ []) ∨ f.1 = 120 ∨ f.1 = 121 ∨ f.1 = 122 ∨ f.1 = 123 ∨ f.1 = 142 := by
  induction h with
  | @bad i b h1 => have := nx_code (L s) i; simp only; omega
  | fin h1 h2 => exact .inl ⟨⟨[], _, rfl, h2⟩, by simp⟩
  | out h1 h2 => exact .inr (.inr (.inr (.inr (.inr rfl))))
  | tok h1 h2 h3 ih => exact ih.imp (fun ⟨⟨p, t, h6, h7⟩, _⟩ => ⟨⟨_ :: p, t, by rw [h6]; rfl, h7⟩, by simp⟩) id
/-- a token of kind 0 is the end; any other is what the text tells from some byte on -/
theorem chain_tk {s : ByteArray} {i b : Nat} {l : List Tk} {f : Nat × Nat} (h : Chain s i b l f) : i ≤ s.size → ∀ t ∈ l, (t.k = 0 → t.a = s.size) ∧ ∃ j, j ≤ s.size ∧ t = tkAt s j ∧ (nx (L s) j).2.2.2 = 0 := by
  induction h with
  | bad h1 => intro _ t ht; cases ht
  | out h1 h2 => intro _ t ht; cases ht
  | @fin i b f h1 h2 =>
    intro hi t ht
    rw [List.mem_singleton] at ht
    subst ht
    exact ⟨fun _ => (nx_end (L s) i h1 h2).1.trans (L_length s), i, hi, rfl, h1⟩
  | @tok i b l f h1 h2 h3 ih =>
    intro hi t ht
    rcases List.mem_cons.1 ht with rfl | ht
    · exact ⟨fun h => absurd h h2, i, hi, rfl, h1⟩
    · exact ih (tkAt_to s i hi h1).2 t ht
/-- a token's own start -/
theorem chain_start {s : ByteArray} {i b : Nat} {l : List Tk} {f : Nat × Nat} (h : Chain s i b l f) (hi : i ≤ s.size) {t : Tk} (ht : t ∈ l) (hk : t.k ≠ 0) : nx (L s) t.a = (t.k, t.a, t.a + t.s.size, 0) := by
  obtain ⟨_, j, hj, rfl, he⟩ := chain_tk h hi t ht
  have h1 := tkAt_to s j hj he
  have : nx (L s) (tkAt s j).a = nx (L s) j := nx_start (L s) j he hk
  rw [this, h1.1]
  have : (nx (L s) j) = ((nx (L s) j).1, (nx (L s) j).2.1, (nx (L s) j).2.2.1, (nx (L s) j).2.2.2) := rfl
  rw [this, he]
  rfl
end Go.Proofs.YtaddhpeainliiaaGreatDoor.Id
/-! ## PaFirst -/
namespace Go.Proofs.YtaddhpeainliiaaGreatDoor.Id
open Go
set_option linter.unusedVariables false
set_option linter.unusedSimpArgs false
variable {X : Given}
theorem runL_cut {α : Type} {p : Gr α} {l r : List Tk} {t : Tk} {c : Nat} (h : runL p l = .err c (t :: r)) : ∃ pre, l = pre ++ t :: r ∧ ∀ r', runL p (pre ++ t :: r') = .err c (t :: r') := by
  cases l with
  | nil => cases h
  | cons z y =>
    obtain ⟨pre, h1, h2⟩ := runG_cut (p := p) (l := z :: y) h
    refine ⟨pre, h1, fun r' => ?_⟩
    have h3 := h2 r'
    cases pre with
    | nil => exact h3
    | cons a pre => exact h3
/-- a source that goes on otherwise behind the token that was refused -/
theorem mod_cut (hX : LibX X) {s s' : ByteArray} {u : List UInt8} {F : Int} {l r : List Tk} {f : Nat × Nat} {t : Tk} {c : Nat} (hs' : s'.size ≤ 65536) (hF : F ≤ 9223372036854775807) (hc : Chain s 0 F.toNat l f) (hr : runL (pEnd (pModule bigN)) l = .err c (t :: r)) (hk : t.k ≠ 0) (hu : Blank u) (hL : L s' = (L s).take (t.a + t.s.size) ++ u) :
    Does (OrX X) 26 [vS s', vI F] [] (.ret (.tuple [.agg (mD md0), .agg [cZ (c : Nat), cZ (t.a : Nat)]]) []) := by
  obtain ⟨pre, rfl, h2⟩ := runL_cut hr
  obtain ⟨r', f', hc'⟩ := chain_glue hu hL hk pre (Nat.zero_le _) hc
  obtain ⟨g, m, h3, h4⟩ := module_does hX hs' hF hc'
  rw [h2 r'] at h3
  obtain ⟨_, rfl, t', r2, h5, rfl⟩ := h3
  cases h5
  exact h4
end Go.Proofs.YtaddhpeainliiaaGreatDoor.Id
/-! ## PaFuel -/
namespace Go.Proofs.YtaddhpeainliiaaGreatDoor.Id
open Go
set_option linter.unusedVariables false
set_option linter.unusedSimpArgs false
/-- a whole gap, and then any other text -/
theorem gap_glue (x : List UInt8) (hx : Blank x) : ∀ (l : List UInt8) (st : Bool), (gapL st l < l.length ∨ st = false ∧ gapL st l = l.length ∧ False) → gapL st (l.take (gapL st l) ++ x) = gapL st l + gapL false x
  | [], st, h => by rcases h with h | ⟨_, _, h⟩; exact absurd h (Nat.not_lt_zero _); exact h.elim
  | c :: r, true, h => by
    have h : gapL true (c :: r) < (c :: r).length := h.resolve_right fun ⟨_, _, h⟩ => h
    simp only [List.length_cons] at h
    by_cases h1 : isNl c = true
    · have e : gapL true (c :: r) = gapL false r + 1 := by rw [gapL, if_pos h1]; omega
      rw [e] at h ⊢
      rw [List.take_succ_cons, List.cons_append, gapL, if_pos h1, gap_glue x hx r false (.inl (by omega))]
      omega
    · have e : gapL true (c :: r) = gapL true r + 1 := by rw [gapL, if_neg h1]; omega
      rw [e] at h ⊢
      rw [List.take_succ_cons, List.cons_append, gapL, if_neg h1, gap_glue x hx r true (.inl (by omega))]
      omega
  | c :: r, false, h => by
    have h : gapL false (c :: r) < (c :: r).length := h.resolve_right fun ⟨_, _, h⟩ => h
    simp only [List.length_cons] at h
    by_cases h1 : isSp c = true
    · have e : gapL false (c :: r) = gapL false r + 1 := by rw [gapL, if_pos h1]; omega
      rw [e] at h ⊢
      rw [List.take_succ_cons, List.cons_append, gapL, if_pos h1, gap_glue x hx r false (.inl (by omega))]
      omega
    · by_cases h2 : (isSl c && headSl r) = true
      · have e : gapL false (c :: r) = gapL true r + 1 := by rw [gapL, if_neg h1, if_pos h2]; omega
        rw [e] at h ⊢
        have h3 : (isSl c && headSl (r.take (gapL true r) ++ x)) = true := by
          rw [Bool.and_eq_true] at h2 ⊢
          refine ⟨h2.1, ?_⟩
          cases r with
          | nil => exact absurd h2.2 (by decide)
          | cons d r =>
            have : ∃ m, gapL true (d :: r) = m + 1 := by
              rw [gapL]; split <;> exact ⟨_, Nat.add_comm _ _⟩
            obtain ⟨m, hm⟩ := this
            rw [hm, List.take_succ_cons]; exact h2.2
        rw [List.take_succ_cons, List.cons_append, gapL, if_neg h1, if_pos h3, gap_glue x hx r true (.inl (by omega))]
        omega
      · have e : gapL false (c :: r) = 0 := by rw [gapL, if_neg h1, if_neg h2]
        rw [e]; simp
theorem chain_fge {s : ByteArray} {i b : Nat} {l : List Tk} {f : Nat × Nat} (h : Chain s i b l f) : i ≤ s.size → (Endy l ∧ l ≠ []) ∨ (i ≤ f.2 ∧ f.2 ≤ s.size) := by
  induction h with
  | @bad i b h1 =>
    intro hi
    have h3 := nx_fr (L s) i
    have h4 := nx_from (L s) i (by rw [L_length]; exact hi)
    rw [L_length] at h4
    exact .inr ⟨by simp only; omega, h4⟩
  | fin h1 h2 => exact fun _ => .inl ⟨⟨[], _, rfl, h2⟩, by simp⟩
  | @out i h1 h2 =>
    intro hi
    have h3 := nx_fr (L s) i
    have h4 := nx_from (L s) i (by rw [L_length]; exact hi)
    rw [L_length] at h4
    exact .inr ⟨by simp only; omega, h4⟩
  | @tok i b l f h1 h2 h3 ih =>
    intro hi
    have hadv := nx_adv (L s) i (by rw [L_length]; exact hi) h1 h2
    rw [L_length] at hadv
    rcases ih (tkAt_to s i hi h1).2 with ⟨⟨p, t, h6, h7⟩, _⟩ | h
    · exact .inl ⟨⟨_ :: p, t, by rw [h6]; rfl, h7⟩, by simp⟩
    · exact .inr ⟨by omega, h.2⟩
/-- a source whose fuel ran out, that goes on otherwise from there -/
theorem chain_out {s s' : ByteArray} {u : List UInt8} {a i b : Nat} {l : List Tk} {f : Nat × Nat} (hu : Blank u) (h : Chain s i b l f) : i ≤ s.size → f = (142, a) → ¬ (Endy l ∧ l ≠ []) → L s' = (L s).take a ++ u → (nx (L s') a).2.2.2 = 0 → (nx (L s') a).1 ≠ 0 → Chain s' i b l (142, (nx (L s') a).2.1) := by
  induction h with
  | @bad i b h1 =>
    intro hi hf
    have := nx_code (L s) i
    simp only [Prod.mk.injEq] at hf
    omega
  | fin h1 h2 => exact fun _ _ hn => absurd ⟨⟨[], _, rfl, h2⟩, by simp⟩ hn
  | @out i h1 h2 =>
    intro hi hf hn hL he hk
    simp only [Prod.mk.injEq, true_and] at hf
    have h3 := nx_fr (L s) i
    have hadv := nx_adv (L s) i (by rw [L_length]; exact hi) h1 h2
    have hlen : (L s).length = s.size := L_length s
    have hg : gapL false ((L s).drop i) < ((L s).drop i).length := by rw [List.length_drop]; omega
    have e1 : (L s').drop i = ((L s).drop i).take (gapL false ((L s).drop i)) ++ u := by
      rw [hL, List.drop_append_of_le_length (by rw [List.length_take]; omega), List.drop_take]
      congr 2; omega
    have e2 : (L s').drop a = u := by
      rw [hL, List.drop_append_of_le_length (by rw [List.length_take]; omega), List.drop_eq_nil_of_le (by rw [List.length_take]; omega)]; rfl
    have e3 : i + gapL false ((L s').drop i) = a + gapL false ((L s').drop a) := by
      rw [e1, e2, gap_glue u hu _ false (.inl hg)]; omega
    have e4 : nx (L s') i = nx (L s') a := by unfold nx; rw [e3]
    have := Chain.out (s := s') (i := i) (by rw [e4]; exact he) (by rw [e4]; exact hk)
    rw [e4] at this
    exact this
  | @tok i b l f h1 h2 h3 ih =>
    intro hi hf hn hL he hk
    have h5 := tkAt_to s i hi h1
    have hn' : ¬ (Endy l ∧ l ≠ []) := fun ⟨⟨p, t, h6, h7⟩, _⟩ => hn ⟨⟨_ :: p, t, by rw [h6]; rfl, h7⟩, by simp⟩
    have hge := (chain_fge h3 h5.2).resolve_left hn'
    rw [hf] at hge
    have hnx : nx (L s') i = nx (L s) i := by
      rw [hL]
      exact nx_glue _ _ hu _ _ (by rw [L_length]; exact hge.2) (by rw [L_length]; exact hi) h1 h2 hge.1
    have ht := tkAt_eq hL hge.2 hnx hge.1
    rw [← ht]
    refine .tok (by rw [hnx]; exact h1) (by rw [hnx]; exact h2) ?_
    rw [hnx]
    exact ih h5.2 hf hn' hL he hk
theorem Endy_not_more {α : Type} {p : Gr α} (hp : Gd p) {l : List Tk} (h : runL p l = .more) : ¬ (Endy l ∧ l ≠ []) := by
  rintro ⟨h1, h2⟩
  cases l with
  | nil => exact h2 rfl
  | cons t r =>
    have := hp t r
    rw [show runG p (t :: r) = .more from h] at this
    exact this h1
/-- ParseFirst's second case -/
theorem mod_out {X : Given} (hX : LibX X) {s s' : ByteArray} {u : List UInt8} {F : Int} {l : List Tk} {f : Nat × Nat} {a : Nat} (hs' : s'.size ≤ 65536) (hF : F ≤ 9223372036854775807) (hc : Chain s 0 F.toNat l f) (hf : f = (142, a)) (hr : runL (pEnd (pModule bigN)) l = .more) (hu : Blank u) (hL : L s' = (L s).take a ++ u) (he : (nx (L s') a).2.2.2 = 0) (hk : (nx (L s') a).1 ≠ 0) :
    Does (OrX X) 26 [vS s', vI F] [] (.ret (.tuple [.agg (mD md0), .agg [cZ 142, cZ ((nx (L s') a).2.1 : Nat)]]) []) := by
  have hc' := chain_out hu hc (Nat.zero_le _) hf (Endy_not_more (gd_end gd_module) hr) hL he hk
  obtain ⟨g, m, h3, h4⟩ := module_does hX hs' hF hc'
  rw [hr] at h3
  obtain ⟨rfl, _, rfl⟩ := h3
  exact h4
end Go.Proofs.YtaddhpeainliiaaGreatDoor.Id
/-! ## PaAwake -/
namespace Go.Proofs.YtaddhpeainliiaaGreatDoor.Id
open Go
set_option linter.unusedVariables false
set_option linter.unusedSimpArgs false
def awS : ByteArray := mkB [99, 111, 110, 115, 116, 32, 99, 32, 61, 32, 49, 32, 43, 32, 50, 59]
def awT : ByteArray := mkB [99, 111, 110, 115, 116, 32, 99, 32, 61, 32, 49, 32, 43, 59]
theorem Chain.tok' {s : ByteArray} {i b j : Nat} {l : List Tk} {f : Nat × Nat} (h1 : (nx (L s) i).2.2.2 = 0) (h2 : ((nx (L s) i).1.beq 0) = false) (e : (nx (L s) i).2.2.1 = j) (h : Chain s j b l f) : Chain s i (b + 1) (tkAt s i :: l) f :=
  .tok h1 (Nat.ne_of_beq_eq_false h2) (e ▸ h)
theorem aw_chain : Chain awS 0 9 [tkAt awS 0, tkAt awS 5, tkAt awS 7, tkAt awS 9, tkAt awS 11, tkAt awS 13, tkAt awS 15, tkAt awS 16] (0, 0) := by
  refine .tok' (s := awS) (i := 0) (j := 5) (by kernel_rfl) (by kernel_rfl) (by kernel_rfl) ?_
  refine .tok' (s := awS) (i := 5) (j := 7) (by kernel_rfl) (by kernel_rfl) (by kernel_rfl) ?_
  refine .tok' (s := awS) (i := 7) (j := 9) (by kernel_rfl) (by kernel_rfl) (by kernel_rfl) ?_
  refine .tok' (s := awS) (i := 9) (j := 11) (by kernel_rfl) (by kernel_rfl) (by kernel_rfl) ?_
  refine .tok' (s := awS) (i := 11) (j := 13) (by kernel_rfl) (by kernel_rfl) (by kernel_rfl) ?_
  refine .tok' (s := awS) (i := 13) (j := 15) (by kernel_rfl) (by kernel_rfl) (by kernel_rfl) ?_
  refine .tok' (s := awS) (i := 15) (j := 16) (by kernel_rfl) (by kernel_rfl) (by kernel_rfl) ?_
  exact .fin (s := awS) (i := 16) (by kernel_rfl) (by kernel_rfl)
theorem aw_run : (match runL (pEnd (pModule bigN)) [tkAt awS 0, tkAt awS 5, tkAt awS 7, tkAt awS 9, tkAt awS 11, tkAt awS 13, tkAt awS 15, tkAt awS 16] with | .ok m _ => (match m.cs with | [c] => decide (c.e.op = 9) | _ => false) | _ => false) = true := by
  kernel_rfl
theorem aw_chain2 : Chain awT 0 9 [tkAt awT 0, tkAt awT 5, tkAt awT 7, tkAt awT 9, tkAt awT 11, tkAt awT 13, tkAt awT 14] (0, 0) := by
  refine .tok' (s := awT) (i := 0) (j := 5) (by kernel_rfl) (by kernel_rfl) (by kernel_rfl) ?_
  refine .tok' (s := awT) (i := 5) (j := 7) (by kernel_rfl) (by kernel_rfl) (by kernel_rfl) ?_
  refine .tok' (s := awT) (i := 7) (j := 9) (by kernel_rfl) (by kernel_rfl) (by kernel_rfl) ?_
  refine .tok' (s := awT) (i := 9) (j := 11) (by kernel_rfl) (by kernel_rfl) (by kernel_rfl) ?_
  refine .tok' (s := awT) (i := 11) (j := 13) (by kernel_rfl) (by kernel_rfl) (by kernel_rfl) ?_
  refine .tok' (s := awT) (i := 13) (j := 14) (by kernel_rfl) (by kernel_rfl) (by kernel_rfl) ?_
  exact .fin (s := awT) (i := 14) (by kernel_rfl) (by kernel_rfl)
theorem aw_run2 : (match runL (pEnd (pModule bigN)) [tkAt awT 0, tkAt awT 5, tkAt awT 7, tkAt awT 9, tkAt awT 11, tkAt awT 13, tkAt awT 14] with | .err c (t :: _) => decide (c = 140) && decide (t.a = 13) | _ => false) = true := by
  kernel_rfl
/-- what the law's own two readings answer -/
theorem aw_mod {X : Given} (hX : LibX X) : ∃ m, (match m.cs with | [c] => decide (c.e.op = 9) | _ => false) = true ∧ Does (OrX X) 26 [vS awS, vI 9] [] (.ret (.tuple [.agg (mD m), .agg [cZ 0, cZ 0]]) []) := by
  obtain ⟨g, m, h1, h2⟩ := module_does hX (s := awS) (F := 9) (by decide) (by decide) aw_chain
  have hr := aw_run
  revert h1 hr
  generalize runL (pEnd (pModule bigN)) _ = z
  cases z with
  | ok m' r =>
    rintro ⟨rfl, rfl⟩ hr
    exact ⟨m, hr, h2⟩
  | more => rintro _ hr; cases hr
  | err c r => rintro _ hr; cases hr
  | out => rintro _ hr; cases hr
theorem aw_mod2 {X : Given} (hX : LibX X) : Does (OrX X) 26 [vS awT, vI 9] [] (.ret (.tuple [.agg (mD md0), .agg [cZ 140, cZ 13]]) []) := by
  obtain ⟨g, m, h1, h2⟩ := module_does hX (s := awT) (F := 9) (by decide) (by decide) aw_chain2
  have hr := aw_run2
  revert h1 hr
  generalize runL (pEnd (pModule bigN)) _ = z
  cases z with
  | ok m' r => rintro _ hr; cases hr
  | more => rintro _ hr; cases hr
  | err c r =>
    rintro ⟨_, rfl, t, r', rfl, rfl⟩ hr
    simp only [Bool.and_eq_true, decide_eq_true_eq] at hr
    obtain ⟨rfl, h3⟩ := hr
    rw [h3] at h2
    exact h2
  | out => rintro _ hr; cases hr
end Go.Proofs.YtaddhpeainliiaaGreatDoor.Id
/-! ## PaAwakeB -/
namespace Go.Proofs.YtaddhpeainliiaaGreatDoor.Id
open Go
set_option linter.unusedVariables false
set_option linter.unusedSimpArgs false
variable {X : Given}
end Go.Proofs.YtaddhpeainliiaaGreatDoor.Id
/-! ## PaRightA -/
namespace Go.Proofs.YtaddhpeainliiaaGreatDoor.Id
open Go
set_option linter.unusedVariables false
set_option linter.unusedSimpArgs false
variable {X : Given}
abbrev vD (v : TVal) : List D := [cZ v.t, cZ v.i, .bool v.b, .str v.s]
def litOk (v : TVal) : Bool :=
  if v.t = 1 then decide (0 ≤ v.i) && (!v.b && decide (v.s = .empty))
  else if v.t = 2 then decide (v.i = 0) && decide (v.s = .empty)
  else if v.t = 3 then decide (v.i = 0) && (!v.b && decide (v.s.size ≤ 4096))
  else false
theorem bytes_empty : ({ data := #[] } : ByteArray) = ByteArray.empty := rfl
theorem value_does (v : TVal) : Does X 70 [.agg (vD v)] [] (.ret (vB (litOk v)) []) := by
  refine DoesQ.eq (DoesQ.of Tryz.func70 (by kernel_rfl) ?_)
  repeat' first | refine WP.iteT (by assumption) ?_ | refine WP.iteF (by assumption) ?_ | refine WP.ite (fun _ => ?_) (fun _ => ?_) | refine WP.asrt (by kernel_rfl) ?_ | refine WP.leaf ?_
  all_goals
    refine congrArg (fun b => Out.ret (vB b) []) ?_
    unfold litOk
    simp_all [bytes_empty]
    try omega
theorem literal_does (v : TVal) : Does X 78 [.agg (vD v)] [] (.ret (vB (litOk v)) []) := by
  refine DoesQ.eq (DoesQ.of Tryz.func78 (by kernel_rfl) ?_)
  repeat' first | refine WP.iteT (by assumption) ?_ | refine WP.iteF (by assumption) ?_ | refine WP.ite (fun _ => ?_) (fun _ => ?_) | refine WP.asrt (by kernel_rfl) ?_ | refine WP.leaf ?_
  all_goals
    refine congrArg (fun b => Out.ret (vB b) []) ?_
    unfold litOk
    simp_all [bytes_empty]
    try omega
def namedOk (of nm : ByteArray) : Bool := isWord nm && (decide (of = .empty) || isWord of)
def bareOk (of nm : ByteArray) : Bool := decide (of = .empty) && decide (nm = .empty)
def noVal (v : TVal) : Bool := decide (v.t = 0) && (decide (v.i = 0) && (!v.b && decide (v.s = .empty)))
def rightN (k : Int) (of nm : ByteArray) (v : TVal) (op : Int) (n : Nat) : Bool :=
  if k = 1 then litOk v && (bareOk of nm && (decide (op = 0) && decide (n = 0)))
  else if k = 2 then namedOk of nm && (noVal v && (decide (op = 0) && decide (n = 0)))
  else if k = 3 then namedOk of nm && (noVal v && decide (op = 0))
  else if k = 4 then bareOk of nm && (noVal v && (decide (15 ≤ op) && (decide (op ≤ 17) && decide (n = 1))))
  else if k = 5 then bareOk of nm && (noVal v && (decide (1 ≤ op) && (decide (op ≤ 14) && decide (n = 2))))
  else false
mutual
def rightE : TExpr → Bool
  | .mk k a of nm v op kids => rightEs kids && rightN k of nm v op kids.length
def rightEs : List TExpr → Bool
  | [] => true
  | e :: r => rightE e && rightEs r
end
mutual
def smE : TExpr → Prop
  | .mk k a of nm v op kids => of.size ≤ 1048576 ∧ nm.size ≤ 1048576 ∧ kids.length ≤ 1000000000 ∧ smEs kids
def smEs : List TExpr → Prop
  | [] => True
  | e :: r => smE e ∧ smEs r
end
theorem rightEs_app : ∀ a b : List TExpr, rightEs (a ++ b) = (rightEs a && rightEs b)
  | [], b => by simp [rightEs]
  | x :: r, b => by rw [List.cons_append, rightEs, rightEs, rightEs_app r b, Bool.and_assoc]
theorem smEs_mem : ∀ {l : List TExpr} {e : TExpr}, smEs l → e ∈ l → smE e
  | x :: r, e, h, he => by
    rcases List.mem_cons.1 he with rfl | he
    · exact h.1
    · exact smEs_mem h.2 he
theorem dsAll_get {l p r : List TExpr} {x : TExpr} (h : l = p ++ x :: r) : (dsAll l)[((p.length : Int)).toNat]? = some (eD x) := by
  subst h
  rw [dsAll_app, dsAll_cons]
  have : (dsAll p).length = p.length := dsAll_len p
  simp [this]
theorem right_loop (hX : LibX X) (e : TExpr) (hk : e.kids.length ≤ 1000000000) (hD : ∀ x ∈ e.kids, Does X 49 [.agg (eD x)] [] (.ret (vB (rightE x)) [])) (K : Ex → St → Id.T Out) (Q : Out → Prop)
    (hE : rightEs e.kids = true → WP X (K (.exit 0) ⟨[(1, .box 1 0)], [(1, eV e)]⟩) Q) (hR : rightEs e.kids = false → WP X (K .ret ⟨[(2, .lit false)], []⟩) Q) :
    ∀ (r p : List TExpr), e.kids = p ++ r → rightEs p = true → ∀ σ : St, getT σ.t 1 = .box 1 0 → getT σ.t 9 = .d (.sl 10 (dsAll e.kids)) → getT σ.t 10 = vI (dsAll e.kids).length → getT σ.t 11 = vI p.length → getB σ.b 1 = some (eV e) → WP X (.loop (lp Tryz.f49 0) σ K) Q
  | r, p, h, hp, σ, g1, g9, g10, g11, gb => by
    refine WP.round ⟨[(1, .box 1 0), (9, .d (.sl 10 (dsAll e.kids))), (10, vI (dsAll e.kids).length), (11, vI p.length)], [(1, eV e)]⟩ ⟨⟨.inl g1.symm, .inl g9.symm, .inl g10.symm, .inl g11.symm, trivial⟩, ⟨WkB.box gb, trivial⟩⟩ ?_
    have hlen : e.kids.length = p.length + r.length := by rw [h]; simp
    cases r with
    | nil =>
      refine WP.iteF (by rw [dsAll_len]; simp at hlen; simp; omega) ?_
      refine WP.leaf ⟨⟨[(1, .box 1 0)], [(1, eV e)]⟩, ⟨⟨.inl rfl, trivial⟩, ⟨WkB.box rfl, trivial⟩⟩, hE (by rw [h]; simpa using hp)⟩
    | cons y r =>
      simp only [List.length_cons] at hlen
      refine WP.iteT (by rw [dsAll_len]; simp; omega) ?_
      refine WP.idx _ (by omega) (dsAll_get h) ?_
      refine WP.use1 (hD y (by rw [h]; simp)) ?_
      refine WP.ite (fun hx => ?_) (fun hx => ?_)
      · refine WP.leaf ⟨⟨[(2, .lit false)], []⟩, ⟨⟨.inl rfl, trivial⟩, trivial⟩, hR ?_⟩
        rw [h, rightEs_app, rightEs]
        simp at hx; simp [hx]
      · refine WP.leaf ?_
        refine right_loop hX e hk hD K Q hE hR r (p ++ [y]) (by rw [h]; simp) (by rw [rightEs_app, hp]; simp at hx; simp [rightEs, hx]) _ rfl rfl rfl ?_ rfl
        show vI (IntKind.i64.wrap ((p.length : Int) + 1)) = _
        rw [wrapI (by omega) (by omega)]; simp
set_option maxHeartbeats 4000000 in
theorem right_does (hX : LibX X) : ∀ (n : Nat) (e : TExpr), SizeOf.sizeOf e < n → smE e → Does X 49 [.agg (eD e)] [] (.ret (vB (rightE e)) [])
  | 0, e, h, _ => absurd h (Nat.not_lt_zero _)
  | n + 1, .mk k a of nm v op kids, hn, hs => by
    simp only [smE] at hs
    obtain ⟨h1, h2, h3, h4⟩ := hs
    refine DoesQ.eq (DoesQ.of Tryz.func49 (by kernel_rfl) ?_)
    refine right_loop hX (.mk k a of nm v op kids) h3 (fun x hx => right_does hX n x ?_ (smEs_mem h4 hx)) _ _ ?_ ?_ kids [] rfl rfl _ rfl rfl rfl rfl rfl
    · have := List.sizeOf_lt_of_mem hx
      simp only [TExpr.mk.sizeOf_spec] at hn
      have : (TExpr.mk k a of nm v op kids).kids = kids := rfl
      simp_all; omega
    · intro hk
      have hw := lword hX nm h2
      have ho := lword hX of h1
      have hv := value_does (X := X) v
      have hk' : rightEs kids = true := hk
      have e1 := dsAll_len kids
      clear hk hn h1 h2 h3 h4
      dsimp only [eV, TExpr.k, TExpr.a, TExpr.of, TExpr.nm, TExpr.v, TExpr.op, TExpr.kids]
      rw [rightE, hk']
      refine WP.use1 hw ?_
      repeat' first | refine WP.iteT (by assumption) ?_ | refine WP.iteF (by assumption) ?_ | refine WP.ite (fun _ => ?_) (fun _ => ?_) | refine WP.leaf ?_ | refine WP.use1 hv ?_ | refine WP.use1 ho ?_ | refine WP.asrt (by kernel_rfl) ?_
      all_goals
        clear hw ho hv hX hk'
        refine congrArg (fun b => Out.ret (vB b) []) ?_
        unfold rightN namedOk bareOk noVal
        simp_all [bytes_empty]
        try omega
    · intro hk
      refine WP.leaf ?_
      have hk' : rightEs kids = false := hk
      rw [rightE, hk']; rfl
end Go.Proofs.YtaddhpeainliiaaGreatDoor.Id
/-! ## PaRightD -/
namespace Go.Proofs.YtaddhpeainliiaaGreatDoor.Id
open Go
set_option linter.unusedVariables false
set_option linter.unusedSimpArgs false
variable {X : Given}
def noneN (k : Int) (of nm : ByteArray) (v : TVal) (op : Int) (n : Nat) : Bool := decide (k = 0) && (decide (of = .empty) && (decide (nm = .empty) && (noVal v && (decide (op = 0) && decide (n = 0)))))
def noneE (e : TExpr) : Bool := noneN e.k e.of e.nm e.v e.op e.kids.length
def rightSN (k : Int) (nm : ByteArray) (e : TExpr) (nb : Nat) (he : Bool) : Bool :=
  if k = 1 ∨ k = 2 then rightE e && (decide (nb = 0) && (!he && isWord nm))
  else if k = 3 then rightE e && decide (nm = .empty)
  else if k = 4 then rightE e && (decide (nm = .empty) && !he)
  else if k = 5 then (rightE e || noneE e) && (decide (nb = 0) && (!he && decide (nm = .empty)))
  else if k = 6 then rightE e && (decide (nb = 0) && (!he && decide (nm = .empty)))
  else if k = 7 then rightE e && (decide (nb = 0) && (!he && (decide (nm = .empty) && decide (e.k = 3))))
  else false
mutual
def rightS : TStmt → Bool
  | .mk k a nm e body els he => rightSs body && (rightSs els && ((he || decide (els.length = 0)) && rightSN k nm e body.length he))
def rightSs : List TStmt → Bool
  | [] => true
  | s :: r => rightS s && rightSs r
end
mutual
def smS : TStmt → Prop
  | .mk k a nm e body els he => nm.size ≤ 1048576 ∧ smE e ∧ body.length ≤ 1000000000 ∧ els.length ≤ 1000000000 ∧ smSs body ∧ smSs els
def smSs : List TStmt → Prop
  | [] => True
  | s :: r => smS s ∧ smSs r
end
theorem rightSs_app : ∀ a b : List TStmt, rightSs (a ++ b) = (rightSs a && rightSs b)
  | [], b => by simp [rightSs]
  | x :: r, b => by rw [List.cons_append, rightSs, rightSs, rightSs_app r b, Bool.and_assoc]
theorem smSs_mem : ∀ {l : List TStmt} {e : TStmt}, smSs l → e ∈ l → smS e
  | x :: r, e, h, he => by
    rcases List.mem_cons.1 he with rfl | he
    · exact h.1
    · exact smSs_mem h.2 he
theorem ssAll_get {l p r : List TStmt} {x : TStmt} (h : l = p ++ x :: r) : (ssAll l)[((p.length : Int)).toNat]? = some (sD x) := by
  subst h
  rw [ssAll_app, ssAll_cons]
  have : (ssAll p).length = p.length := ssAll_len p
  simp [this]
theorem nothing_does (e : TExpr) : Does X 125 [.agg (eD e)] [] (.ret (vB (noneE e)) []) := by
  obtain ⟨k, a, of, nm, v, op, kids⟩ := e
  have e1 := dsAll_len kids
  refine DoesQ.eq (DoesQ.of Tryz.func125 (by kernel_rfl) ?_)
  dsimp only [eD, TExpr.k, TExpr.a, TExpr.of, TExpr.nm, TExpr.v, TExpr.op, TExpr.kids]
  repeat' first | refine WP.iteT (by assumption) ?_ | refine WP.iteF (by assumption) ?_ | refine WP.ite (fun _ => ?_) (fun _ => ?_) | refine WP.leaf ?_ | refine WP.asrt (by kernel_rfl) ?_
  all_goals
    refine congrArg (fun b => Out.ret (vB b) []) ?_
    change _ = noneN k of nm v op kids.length
    unfold noneN noVal
    simp_all [bytes_empty]
theorem block_chk_loop (l : List TStmt) (hk : l.length ≤ 1000000000) (hD : ∀ x ∈ l, Does X 98 [.agg (sD x)] [] (.ret (vB (rightS x)) [])) (K : Ex → St → Id.T Out) (Q : Out → Prop)
    (hE : rightSs l = true → WP X (K (.exit 0) ⟨[], []⟩) Q) (hR : rightSs l = false → WP X (K .ret ⟨[(2, .lit false)], []⟩) Q) :
    ∀ (r p : List TStmt), l = p ++ r → rightSs p = true → ∀ σ : St, getT σ.t 5 = .d (.sl 16 (ssAll l)) → getT σ.t 6 = vI (ssAll l).length → getT σ.t 7 = vI p.length → WP X (.loop (lp Tryz.f61 0) σ K) Q
  | r, p, h, hp, σ, g5, g6, g7 => by
    refine WP.round ⟨[(5, .d (.sl 16 (ssAll l))), (6, vI (ssAll l).length), (7, vI p.length)], []⟩ ⟨⟨.inl g5.symm, .inl g6.symm, .inl g7.symm, trivial⟩, trivial⟩ ?_
    have hlen : l.length = p.length + r.length := by rw [h]; simp
    cases r with
    | nil =>
      refine WP.iteF (by rw [ssAll_len]; simp at hlen; simp; omega) ?_
      refine WP.leaf ⟨⟨[], []⟩, ⟨trivial, trivial⟩, hE (by rw [h]; simpa using hp)⟩
    | cons y r =>
      simp only [List.length_cons] at hlen
      refine WP.iteT (by rw [ssAll_len]; simp; omega) ?_
      refine WP.idx _ (by omega) (ssAll_get h) ?_
      refine WP.use1 (hD y (by rw [h]; simp)) ?_
      refine WP.ite (fun hx => ?_) (fun hx => ?_)
      · refine WP.leaf ⟨⟨[(2, .lit false)], []⟩, ⟨⟨.inl rfl, trivial⟩, trivial⟩, hR ?_⟩
        rw [h, rightSs_app, rightSs]
        simp at hx; simp [hx]
      · refine WP.leaf ?_
        refine block_chk_loop l hk hD K Q hE hR r (p ++ [y]) (by rw [h]; simp) (by rw [rightSs_app, hp]; simp at hx; simp [rightSs, hx]) _ rfl rfl ?_
        show vI (IntKind.i64.wrap ((p.length : Int) + 1)) = _
        rw [wrapI (by omega) (by omega)]; simp
theorem block_chk (l : List TStmt) (hk : l.length ≤ 1000000000) (hD : ∀ x ∈ l, Does X 98 [.agg (sD x)] [] (.ret (vB (rightS x)) [])) : Does X 61 [.d (.sl 16 (ssAll l))] [] (.ret (vB (rightSs l)) []) := by
  refine DoesQ.eq (DoesQ.of Tryz.func61 (by kernel_rfl) ?_)
  refine block_chk_loop l hk hD _ _ ?_ ?_ l [] rfl rfl _ rfl rfl rfl
  · intro h; exact WP.leaf (by rw [h])
  · intro h; exact WP.leaf (by rw [h])
set_option maxHeartbeats 4000000 in
theorem stmt_chk (hX : LibX X) : ∀ (n : Nat) (s : TStmt), SizeOf.sizeOf s < n → smS s → Does X 98 [.agg (sD s)] [] (.ret (vB (rightS s)) [])
  | 0, e, h, _ => absurd h (Nat.not_lt_zero _)
  | n + 1, .mk k a nm e body els he, hn, hs => by
    simp only [smS] at hs
    obtain ⟨h1, h2, h3, h4, h5, h6⟩ := hs
    simp only [TStmt.mk.sizeOf_spec] at hn
    have hb := block_chk (X := X) body h3 (fun x hx => stmt_chk hX n x (by have := List.sizeOf_lt_of_mem hx; omega) (smSs_mem h5 hx))
    have hl := block_chk (X := X) els h4 (fun x hx => stmt_chk hX n x (by have := List.sizeOf_lt_of_mem hx; omega) (smSs_mem h6 hx))
    have hw := lword hX nm h1
    have hr := right_does hX (SizeOf.sizeOf e + 1) e (Nat.lt_succ_self _) h2
    have hN := nothing_does (X := X) e
    have e1 := ssAll_len body
    have e2 := ssAll_len els
    refine DoesQ.eq (DoesQ.of Tryz.func98 (by kernel_rfl) ?_)
    clear hn h1 h2 h3 h4 h5 h6
    dsimp only [sD, TStmt.k, TStmt.a, TStmt.nm, TStmt.e, TStmt.body, TStmt.els, TStmt.he]
    rw [rightS]
    refine WP.use1 hb ?_
    repeat' first | refine WP.iteT (by assumption) ?_ | refine WP.iteF (by assumption) ?_ | refine WP.ite (fun _ => ?_) (fun _ => ?_) | refine WP.leaf ?_ | refine WP.use1 hl ?_ | refine WP.use1 hr ?_ | refine WP.use1 hw ?_ | refine WP.use1 hN ?_ | refine WP.asrt (by kernel_rfl) ?_
    all_goals
      clear hw hb hl hr hN hX
      refine congrArg (fun b => Out.ret (vB b) []) ?_
      unfold rightSN
      simp_all [bytes_empty]
      try (intro h; subst h; contradiction)
end Go.Proofs.YtaddhpeainliiaaGreatDoor.Id
/-! ## PaRightF -/
namespace Go.Proofs.YtaddhpeainliiaaGreatDoor.Id
open Go
set_option linter.unusedVariables false
set_option linter.unusedSimpArgs false
variable {X : Given}
def rightI (x : TIncl) : Bool := decide (x.p.size ≤ 4096) && isWord x.nm
def rightC (c : TCons) : Bool := isWord c.nm && rightE c.e
def rightP (p : TParam) : Bool := isWord p.nm && (decide (1 ≤ p.t) && decide (p.t ≤ 3))
def rightF (f : TFunc) : Bool := isWord f.nm && (decide (0 ≤ f.res) && (decide (f.res ≤ 3) && (rightSs f.body && f.ps.all rightP)))
def rightM (m : TMod) : Bool := m.is.all rightI && (m.cs.all rightC && m.fs.all rightF)
structure SmF (f : TFunc) : Prop where
  nm : f.nm.size ≤ 1048576
  np : f.ps.length ≤ 1000000000
  ps : ∀ p ∈ f.ps, p.nm.size ≤ 1048576
  nb : f.body.length ≤ 1000000000
  body : smSs f.body
structure SmM (m : TMod) : Prop where
  ni : m.is.length ≤ 1000000000
  nc : m.cs.length ≤ 1000000000
  nf : m.fs.length ≤ 1000000000
  is : ∀ x ∈ m.is, x.nm.size ≤ 1048576
  cs : ∀ c ∈ m.cs, c.nm.size ≤ 1048576 ∧ smE c.e
  fs : ∀ f ∈ m.fs, SmF f
theorem map_get {α : Type} (F : α → List D) {l p r : List α} {x : α} (h : l = p ++ x :: r) : (l.map F)[((p.length : Int)).toNat]? = some (F x) := by
  subst h; simp
theorem all_app {α : Type} (f : α → Bool) (a b : List α) : (a ++ b).all f = (a.all f && b.all f) := by simp
abbrev mV (m : TMod) : List V := [.d (.sl 3 (isD' m.is)), .d (.sl 13 (csD m.cs)), .d (.sl 6 (fsD m.fs))]
theorem rI_loop (hX : LibX X) (l : List TIncl) (hk : l.length ≤ 1000000000) (hD : ∀ x ∈ l, x.nm.size ≤ 1048576) (m : TMod) (K : Ex → St → Id.T Out) (Q : Out → Prop)
    (hE : l.all rightI = true → WP X (K (.exit 0) ⟨[(1, .box 1 0)], [(1, mV m)]⟩) Q) (hR : l.all rightI = false → WP X (K .ret ⟨[(2, .lit false)], []⟩) Q) :
    ∀ (r p : List TIncl), l = p ++ r → p.all rightI = true → ∀ σ : St, getT σ.t 1 = .box 1 0 → getB σ.b 1 = some (mV m) → getT σ.t 12 = .d (.sl 3 (isD' l)) → getT σ.t 13 = vI (isD' l).length → getT σ.t 14 = vI p.length → WP X (.loop (lp Tryz.f27 0) σ K) Q
  | r, p, h, hp, σ, g1, gb, g5, g6, g7 => by
    refine WP.round ⟨[(1, .box 1 0), (12, .d (.sl 3 (isD' l))), (13, vI (isD' l).length), (14, vI p.length)], [(1, mV m)]⟩ ⟨⟨.inl g1.symm, .inl g5.symm, .inl g6.symm, .inl g7.symm, trivial⟩, ⟨WkB.box gb, trivial⟩⟩ ?_
    have hlen : l.length = p.length + r.length := by rw [h]; simp
    cases r with
    | nil =>
      refine WP.iteF (by simp at hlen; simp; omega) ?_
      refine WP.leaf ⟨⟨[(1, .box 1 0)], [(1, mV m)]⟩, ⟨⟨.inl rfl, trivial⟩, ⟨WkB.box rfl, trivial⟩⟩, hE (by rw [h]; simpa using hp)⟩
    | cons y r =>
      simp only [List.length_cons] at hlen
      have hw := lword hX y.nm (hD y (by rw [h]; simp))
      refine WP.iteT (by simp; omega) ?_
      refine WP.idx _ (by omega) (map_get iD h) ?_
      have hgo : rightI y = true → ∀ σ : St, getT σ.t 1 = .box 1 0 → getB σ.b 1 = some (mV m) → getT σ.t 12 = .d (.sl 3 (isD' l)) → getT σ.t 13 = vI (isD' l).length → getT σ.t 14 = vI (IntKind.i64.wrap ((p.length : Int) + 1)) → WP X (.loop (lp Tryz.f27 0) σ K) Q := fun hy σ e1 eb e12 e13 e14 => by
        refine rI_loop hX l hk hD m K Q hE hR r (p ++ [y]) (by rw [h]; simp) (by rw [all_app, hp]; simp [hy]) σ e1 eb e12 e13 ?_
        rw [e14, wrapI (by omega) (by omega)]; simp
      have hno : rightI y = false → WP X (K .ret ⟨[(2, .lit false)], []⟩) Q := fun hy => hR (by rw [h, all_app]; simp [hy])
      refine WP.dec (fun h1 => ?_) (fun h1 => ?_)
      · exact WP.leaf ⟨⟨[(2, .lit false)], []⟩, ⟨⟨.inl rfl, trivial⟩, trivial⟩, hno (by unfold rightI; rw [decide_eq_false (by omega)]; rfl)⟩
      · refine WP.use1 hw ?_
        refine WP.ite (fun h2 => ?_) (fun h2 => ?_)
        · exact WP.leaf ⟨⟨[(2, .lit false)], []⟩, ⟨⟨.inl rfl, trivial⟩, trivial⟩, hno (by unfold rightI; simp at h2; simp [h2])⟩
        · exact WP.leaf (hgo (by unfold rightI; rw [decide_eq_true (by omega)]; simpa using h2) _ rfl rfl rfl rfl rfl)
theorem rC_loop (hX : LibX X) (l : List TCons) (hk : l.length ≤ 1000000000) (hD : ∀ c ∈ l, c.nm.size ≤ 1048576 ∧ smE c.e) (m : TMod) (K : Ex → St → Id.T Out) (Q : Out → Prop)
    (hE : l.all rightC = true → WP X (K (.exit 2) ⟨[(1, .box 1 0)], [(1, mV m)]⟩) Q) (hR : l.all rightC = false → WP X (K .ret ⟨[(2, .lit false)], []⟩) Q) :
    ∀ (r p : List TCons), l = p ++ r → p.all rightC = true → ∀ σ : St, getT σ.t 1 = .box 1 0 → getB σ.b 1 = some (mV m) → getT σ.t 30 = .d (.sl 13 (csD l)) → getT σ.t 31 = vI (csD l).length → getT σ.t 32 = vI p.length → WP X (.loop (lp Tryz.f27 1) σ K) Q
  | r, p, h, hp, σ, g1, gb, g5, g6, g7 => by
    refine WP.round ⟨[(1, .box 1 0), (30, .d (.sl 13 (csD l))), (31, vI (csD l).length), (32, vI p.length)], [(1, mV m)]⟩ ⟨⟨.inl g1.symm, .inl g5.symm, .inl g6.symm, .inl g7.symm, trivial⟩, ⟨WkB.box gb, trivial⟩⟩ ?_
    have hlen : l.length = p.length + r.length := by rw [h]; simp
    cases r with
    | nil =>
      refine WP.iteF (by simp at hlen; simp; omega) ?_
      refine WP.leaf ⟨⟨[(1, .box 1 0)], [(1, mV m)]⟩, ⟨⟨.inl rfl, trivial⟩, ⟨WkB.box rfl, trivial⟩⟩, hE (by rw [h]; simpa using hp)⟩
    | cons y r =>
      simp only [List.length_cons] at hlen
      have hy := hD y (by rw [h]; simp)
      have hw := lword hX y.nm hy.1
      have hr := right_does hX (SizeOf.sizeOf y.e + 1) y.e (Nat.lt_succ_self _) hy.2
      refine WP.iteT (by simp; omega) ?_
      refine WP.idx _ (by omega) (map_get cD h) ?_
      have hgo : rightC y = true → ∀ σ : St, getT σ.t 1 = .box 1 0 → getB σ.b 1 = some (mV m) → getT σ.t 30 = .d (.sl 13 (csD l)) → getT σ.t 31 = vI (csD l).length → getT σ.t 32 = vI (IntKind.i64.wrap ((p.length : Int) + 1)) → WP X (.loop (lp Tryz.f27 1) σ K) Q := fun hy σ e1 eb e12 e13 e14 => by
        refine rC_loop hX l hk hD m K Q hE hR r (p ++ [y]) (by rw [h]; simp) (by rw [all_app, hp]; simp [hy]) σ e1 eb e12 e13 ?_
        rw [e14, wrapI (by omega) (by omega)]; simp
      have hno : rightC y = false → WP X (K .ret ⟨[(2, .lit false)], []⟩) Q := fun hy => hR (by rw [h, all_app]; simp [hy])
      refine WP.use1 hw ?_
      refine WP.ite (fun h1 => ?_) (fun h1 => ?_)
      · exact WP.leaf ⟨⟨[(2, .lit false)], []⟩, ⟨⟨.inl rfl, trivial⟩, trivial⟩, hno (by unfold rightC; simp at h1; simp [h1])⟩
      · refine WP.use1 hr ?_
        refine WP.ite (fun h2 => ?_) (fun h2 => ?_)
        · exact WP.leaf ⟨⟨[(2, .lit false)], []⟩, ⟨⟨.inl rfl, trivial⟩, trivial⟩, hno (by unfold rightC; simp at h2; simp [h2])⟩
        · exact WP.leaf (hgo (by unfold rightC; simp at h1 h2; simp [h1, h2]) _ rfl rfl rfl rfl rfl)
theorem rP_loop {β : Type} (hX : LibX X) (l : List TParam) (hk : l.length ≤ 1000000000) (hD : ∀ p ∈ l, p.nm.size ≤ 1048576) (z48 : List (List D)) (n49 n50 : Int) (K : Ex → St → Id.T β) (Q : β → Prop)
    (hE : l.all rightP = true → WP X (K (.exit 6) ⟨[(48, .d (.sl 6 z48)), (49, vI n49), (50, vI n50)], []⟩) Q) (hR : l.all rightP = false → WP X (K .ret ⟨[(2, .lit false)], []⟩) Q) :
    ∀ (r p : List TParam), l = p ++ r → p.all rightP = true → ∀ σ : St, getT σ.t 48 = .d (.sl 6 z48) → getT σ.t 49 = vI n49 → getT σ.t 50 = vI n50 → getT σ.t 75 = .d (.sl 2 (psD l)) → getT σ.t 76 = vI (psD l).length → getT σ.t 77 = vI p.length → WP X (.loop (lp Tryz.f27 3) σ K) Q
  | r, p, h, hp, σ, g1, g2, g3, g5, g6, g7 => by
    refine WP.round ⟨[(48, .d (.sl 6 z48)), (49, vI n49), (50, vI n50), (75, .d (.sl 2 (psD l))), (76, vI (psD l).length), (77, vI p.length)], []⟩ ⟨⟨.inl g1.symm, .inl g2.symm, .inl g3.symm, .inl g5.symm, .inl g6.symm, .inl g7.symm, trivial⟩, trivial⟩ ?_
    have hlen : l.length = p.length + r.length := by rw [h]; simp
    cases r with
    | nil =>
      refine WP.iteF (by simp at hlen; simp; omega) ?_
      refine WP.leaf ⟨⟨[(48, .d (.sl 6 z48)), (49, vI n49), (50, vI n50)], []⟩, ⟨⟨.inl rfl, .inl rfl, .inl rfl, trivial⟩, trivial⟩, hE (by rw [h]; simpa using hp)⟩
    | cons y r =>
      simp only [List.length_cons] at hlen
      have hw := lword hX y.nm (hD y (by rw [h]; simp))
      refine WP.iteT (by simp; omega) ?_
      refine WP.idx _ (by omega) (map_get pD h) ?_
      have hgo : rightP y = true → ∀ σ : St, getT σ.t 48 = .d (.sl 6 z48) → getT σ.t 49 = vI n49 → getT σ.t 50 = vI n50 → getT σ.t 75 = .d (.sl 2 (psD l)) → getT σ.t 76 = vI (psD l).length → getT σ.t 77 = vI (IntKind.i64.wrap ((p.length : Int) + 1)) → WP X (.loop (lp Tryz.f27 3) σ K) Q := fun hy σ e1 e2 e3 e12 e13 e14 => by
        refine rP_loop hX l hk hD z48 n49 n50 K Q hE hR r (p ++ [y]) (by rw [h]; simp) (by rw [all_app, hp]; simp [hy]) σ e1 e2 e3 e12 e13 ?_
        rw [e14, wrapI (by omega) (by omega)]; simp
      have hno : rightP y = false → WP X (K .ret ⟨[(2, .lit false)], []⟩) Q := fun hy => hR (by rw [h, all_app]; simp [hy])
      refine WP.use1 hw ?_
      repeat' first | refine WP.iteT (by assumption) ?_ | refine WP.iteF (by assumption) ?_ | refine WP.ite (fun _ => ?_) (fun _ => ?_) | refine WP.leaf ?_
      all_goals first
        | exact ⟨⟨[(2, .lit false)], []⟩, ⟨⟨.inl rfl, trivial⟩, trivial⟩, hno (by unfold rightP; simp_all <;> omega)⟩
        | exact hgo (by unfold rightP; simp_all <;> omega) _ rfl rfl rfl rfl rfl rfl
theorem rF_loop (hX : LibX X) (l : List TFunc) (hk : l.length ≤ 1000000000) (hD : ∀ f ∈ l, SmF f) (K : Ex → St → Id.T Out) (Q : Out → Prop)
    (hE : l.all rightF = true → WP X (K (.exit 4) ⟨[], []⟩) Q) (hR : l.all rightF = false → WP X (K .ret ⟨[(2, .lit false)], []⟩) Q) :
    ∀ (r p : List TFunc), l = p ++ r → p.all rightF = true → ∀ σ : St, getT σ.t 48 = .d (.sl 6 (fsD l)) → getT σ.t 49 = vI (fsD l).length → getT σ.t 50 = vI p.length → WP X (.loop (lp Tryz.f27 2) σ K) Q
  | r, p, h, hp, σ, g5, g6, g7 => by
    refine WP.round ⟨[(48, .d (.sl 6 (fsD l))), (49, vI (fsD l).length), (50, vI p.length)], []⟩ ⟨⟨.inl g5.symm, .inl g6.symm, .inl g7.symm, trivial⟩, trivial⟩ ?_
    have hlen : l.length = p.length + r.length := by rw [h]; simp
    cases r with
    | nil =>
      refine WP.iteF (by simp at hlen; simp; omega) ?_
      refine WP.leaf ⟨⟨[], []⟩, ⟨trivial, trivial⟩, hE (by rw [h]; simpa using hp)⟩
    | cons y r =>
      simp only [List.length_cons] at hlen
      have hy := hD y (by rw [h]; simp)
      have hw := lword hX y.nm hy.nm
      have hb := block_chk (X := X) y.body hy.nb (fun x hx => stmt_chk hX (SizeOf.sizeOf x + 1) x (Nat.lt_succ_self _) (smSs_mem hy.body hx))
      refine WP.iteT (by simp; omega) ?_
      refine WP.idx _ (by omega) (map_get fD h) ?_
      have hno : rightF y = false → WP X (K .ret ⟨[(2, .lit false)], []⟩) Q := fun hy => hR (by rw [h, all_app]; simp [hy])
      refine WP.use1 hw ?_
      repeat' first | refine WP.iteT (by assumption) ?_ | refine WP.iteF (by assumption) ?_ | refine WP.ite (fun _ => ?_) (fun _ => ?_) | refine WP.leaf ?_ | refine WP.use1 hb ?_
      all_goals first
        | exact ⟨⟨[(2, .lit false)], []⟩, ⟨⟨.inl rfl, trivial⟩, trivial⟩, hno (by unfold rightF; simp_all <;> omega)⟩
        | skip
      refine rP_loop hX y.ps hy.np hy.ps (fsD l) (fsD l).length p.length _ _ ?_ ?_ y.ps [] rfl rfl _ rfl rfl rfl rfl rfl rfl
      · intro ha
        refine WP.leaf ?_
        refine rF_loop hX l hk hD K Q hE hR r (p ++ [y]) (by rw [h]; simp) (by rw [all_app, hp]; unfold rightF; simp_all) _ rfl rfl ?_
        show vI (IntKind.i64.wrap ((p.length : Int) + 1)) = _
        rw [wrapI (by omega) (by omega)]; simp
      · intro ha
        exact WP.leaf ⟨⟨[(2, .lit false)], []⟩, ⟨⟨.inl rfl, trivial⟩, trivial⟩, hno (by unfold rightF; simp_all)⟩
theorem right_mod (hX : LibX X) (m : TMod) (hm : SmM m) : Does X 27 [.agg (mD m)] [] (.ret (vB (rightM m)) []) := by
  refine DoesQ.eq (DoesQ.of Tryz.func27 (by kernel_rfl) ?_)
  unfold rightM
  refine rI_loop hX m.is hm.ni hm.is m _ _ ?_ ?_ m.is [] rfl rfl _ rfl rfl rfl rfl rfl
  · intro h1
    refine rC_loop hX m.cs hm.nc hm.cs m _ _ ?_ ?_ m.cs [] rfl rfl _ rfl rfl rfl rfl rfl
    · intro h2
      refine rF_loop hX m.fs hm.nf hm.fs _ _ ?_ ?_ m.fs [] rfl rfl _ rfl rfl rfl
      · intro h3; exact WP.leaf (by rw [h1, h2, h3]; rfl)
      · intro h3; exact WP.leaf (by rw [h1, h2, h3]; rfl)
    · intro h2; exact WP.leaf (by rw [h1, h2]; rfl)
  · intro h1; exact WP.leaf (by rw [h1]; rfl)
end Go.Proofs.YtaddhpeainliiaaGreatDoor.Id
/-! ## PrA -/
namespace Go.Proofs.YtaddhpeainliiaaGreatDoor.Id
open Go
set_option linter.unusedVariables false
set_option linter.unusedSimpArgs false
/-- the writer: what stands, its form, the begin of a word that stands last, tabulators, levels -/
structure PSt where
  out : List UInt8
  tight : Bool
  last : UInt8
  tabs : Int
  lv : Int
  most : Int
def hdW : List UInt8 → Bool
  | [] => false
  | c :: _ => isW c
/-- what stands last behind a token -/
def lt : List UInt8 → UInt8
  | [] => 0
  | c :: _ => match isW c with | true => c | false => 0
def sepL (l : UInt8) (s : List UInt8) : List UInt8 := if hdW s = true ∧ l ≠ 0 then [32] else []
def popen (p : PSt) : PSt := { p with lv := p.lv + 1, most := max p.most (p.lv + 1) }
def pshut (p : PSt) : PSt := { p with lv := p.lv - 1 }
def pput (s : List UInt8) (p : PSt) : PSt := { p with out := p.out ++ (sepL p.last s ++ s), last := lt s }
def ptok (s : List UInt8) (p : PSt) : PSt :=
  if s = [123] ∨ s = [40] then popen (pput s p)
  else if s = [125] ∨ s = [41] then pshut (pput s p)
  else pput s p
def pgap (s : List UInt8) (p : PSt) : PSt := if p.tight = true then p else { p with out := p.out ++ s, last := 0 }
/-- a piece of text, what stands last behind it, and how many levels it opens -/
def eff (s : List UInt8) (l : UInt8) (n : Int) (p : PSt) : PSt := { p with out := p.out ++ (sepL p.last s ++ s), last := l, most := max p.most (p.lv + n) }
theorem sep0 (s : List UInt8) : sepL 0 s = [] := by unfold sepL; rw [if_neg (fun h => h.2 rfl)]
theorem sepN {l : UInt8} {s : List UInt8} (h : hdW s = false) : sepL l s = [] := by unfold sepL; rw [if_neg (fun g => by rw [h] at g; cases g.1)]
theorem hdW_app {s t : List UInt8} (h : s ≠ []) : hdW (s ++ t) = hdW s := by
  cases s with
  | nil => exact absurd rfl h
  | cons c r => rfl
theorem sepL_app {l : UInt8} {s t : List UInt8} (h : s ≠ []) : sepL l (s ++ t) = sepL l s := by unfold sepL; rw [hdW_app h]
theorem eff_comp {s1 s2 : List UInt8} {l1 l2 : UInt8} {n1 n2 : Int} {p : PSt} (h : s1 ≠ []) : eff s2 l2 n2 (eff s1 l1 n1 p) = eff (s1 ++ (sepL l1 s2 ++ s2)) l2 (max n1 n2) p := by
  unfold eff
  rw [sepL_app h]
  simp only [PSt.mk.injEq, List.append_assoc, true_and]
  omega
theorem pput_eff {s : List UInt8} {p : PSt} (h : p.lv ≤ p.most) : pput s p = eff s (lt s) 0 p := by
  unfold pput eff
  simp only [PSt.mk.injEq, true_and]
  omega
theorem eff_lv (s : List UInt8) (l : UInt8) (n : Int) (p : PSt) : (eff s l n p).lv = p.lv := rfl
theorem eff_tight (s : List UInt8) (l : UInt8) (n : Int) (p : PSt) : (eff s l n p).tight = p.tight := rfl
theorem eff_ok {s : List UInt8} {l : UInt8} {n : Int} {p : PSt} (h : p.lv ≤ p.most) : (eff s l n p).lv ≤ (eff s l n p).most := by
  show p.lv ≤ max p.most (p.lv + n); omega
theorem ptok_eff {s : List UInt8} {p : PSt} (h : p.lv ≤ p.most) (h1 : s ≠ [123]) (h2 : s ≠ [40]) (h3 : s ≠ [125]) (h4 : s ≠ [41]) : ptok s p = eff s (lt s) 0 p := by
  unfold ptok
  rw [if_neg (fun h => h.elim h1 h2), if_neg (fun h => h.elim h3 h4), pput_eff h]
/-- the gap in so much of a form -/
def gp (tight : Bool) : List UInt8 := if tight = true then [] else [32]
/-- behind a text, a gap: nothing stands last, or the same -/
theorem pgap_eff {s : List UInt8} {l : UInt8} {n : Int} {p : PSt} (g : List UInt8) : pgap g (eff s l n p) = eff s l n p ∧ p.tight = true ∨ pgap g (eff s l n p) = { eff s l n p with out := (eff s l n p).out ++ g, last := 0 } ∧ p.tight = false := by
  unfold pgap
  by_cases h : p.tight = true
  · exact .inl ⟨if_pos (by rw [eff_tight, h]), h⟩
  · exact .inr ⟨if_neg (by rw [eff_tight]; exact h), by simpa using h⟩
/-- a text, a gap, and a text behind that begins no word or has nothing ahead of it -/
theorem eff_gap {s1 s2 : List UInt8} {l1 l2 : UInt8} {n1 n2 : Int} {p : PSt} (h : s1 ≠ []) (h2 : sepL l1 s2 = []) : eff s2 l2 n2 (pgap [32] (eff s1 l1 n1 p)) = eff (s1 ++ (gp p.tight ++ s2)) l2 (max n1 n2) p := by
  rcases pgap_eff (s := s1) (l := l1) (n := n1) (p := p) [32] with ⟨e, ht⟩ | ⟨e, ht⟩
  · rw [e, eff_comp h, h2, ht]; rfl
  · rw [e, ht]
    unfold eff
    rw [sepL_app h, sep0]
    simp only [PSt.mk.injEq, List.append_assoc, true_and, List.nil_append]
    refine ⟨rfl, ?_⟩
    omega
/-- an operator's sign, and how it binds -/
def sgnT (op : Int) : List UInt8 :=
  if op = 1 then [124, 124] else if op = 2 then [38, 38] else if op = 3 then [61, 61] else if op = 4 then [33, 61]
  else if op = 5 then [60] else if op = 6 then [60, 61] else if op = 7 then [62] else if op = 8 then [62, 61]
  else if op = 9 then [43] else if op = 10 then [45] else if op = 11 then [43, 43] else if op = 12 then [42]
  else if op = 13 then [47] else if op = 14 then [37] else if op = 15 then [45] else if op = 16 then [33] else [35]
def sgnN (op : Int) : Int :=
  if op = 1 then 1 else if op = 2 then 2 else if op = 3 ∨ op = 4 ∨ op = 5 ∨ op = 6 ∨ op = 7 ∨ op = 8 then 3
  else if op = 9 ∨ op = 10 ∨ op = 11 then 4 else if op = 12 ∨ op = 13 ∨ op = 14 then 5 else 6
theorem sgnT_all (Q : List UInt8 → Prop) (h : ∀ s ∈ ([[124, 124], [38, 38], [61, 61], [33, 61], [60], [60, 61], [62], [62, 61], [43], [45], [43, 43], [42], [47], [37], [33], [35]] : List (List UInt8)), Q s) (op : Int) : Q (sgnT op) := by
  unfold sgnT
  repeat' first | refine iteInduction (motive := Q) (fun _ => ?_) (fun _ => ?_) | exact h _ (by decide)
theorem sgnT_ne (op : Int) : sgnT op ≠ [] := sgnT_all (fun s => s ≠ []) (by decide) op
theorem sgnT_hd (op : Int) : hdW (sgnT op) = false := sgnT_all (fun s => hdW s = false) (by decide) op
theorem sgnT_br (op : Int) : sgnT op ≠ [123] ∧ sgnT op ≠ [40] ∧ sgnT op ≠ [125] ∧ sgnT op ≠ [41] := sgnT_all (fun s => s ≠ [123] ∧ s ≠ [40] ∧ s ≠ [125] ∧ s ≠ [41]) (by decide) op
theorem lt_sgn (op : Int) : lt (sgnT op) = 0 := by
  have h := sgnT_hd op
  cases hs : sgnT op with
  | nil => rfl
  | cons c r =>
    rw [hs] at h
    have h : isW c = false := h
    show (match isW c with | true => c | false => 0) = 0
    rw [h]
/-- brackets around a writing -/
def wIn (b : Bool) (f : PSt → PSt) (p : PSt) : PSt := if b = true then ptok [41] (f (ptok [40] p)) else f p
def rIn (b : Bool) (s : List UInt8) : List UInt8 := if b = true then 40 :: (s ++ [41]) else s
/-- a writing that is a piece of text -/
def Is (f : PSt → PSt) (s : Bool → List UInt8) (l : UInt8) (n : Int) : Prop := 0 ≤ n ∧ (∀ t, s t ≠ []) ∧ ∀ p : PSt, p.lv ≤ p.most → f p = eff (s p.tight) l n p
theorem Is.br {f : PSt → PSt} {s : Bool → List UInt8} {l : UInt8} {n : Int} (h : Is f s l n) (b : Bool) : Is (wIn b f) (fun t => rIn b (s t)) (if b = true then 0 else l) (if b = true then n + 1 else n) := by
  cases b with
  | false => exact h
  | true =>
    obtain ⟨h0, h1, h2⟩ := h
    refine ⟨by simp; omega, fun t => by simp [rIn], fun p hp => ?_⟩
    show ptok [41] (f (ptok [40] p)) = eff (40 :: (s p.tight ++ [41])) 0 (n + 1) p
    have e1 : ptok [40] p = popen (pput [40] p) := by unfold ptok; rw [if_pos (.inr rfl)]
    have e2 : sepL p.last [40] = [] := sepN (by decide)
    rw [e1, h2 _ (by show p.lv + 1 ≤ max p.most (p.lv + 1); omega)]
    have e3 : ∀ q, ptok [41] q = pshut (pput [41] q) := fun q => by unfold ptok; rw [if_neg (by decide), if_pos (.inr rfl)]
    rw [e3]
    have e4 : lt [41] = 0 := by decide
    have e5 : lt [40] = 0 := by decide
    have e6 : sepL p.last (40 :: (s p.tight ++ [41])) = [] := sepN (by show isW 40 = false; decide)
    have e7 : sepL l [41] = [] := sepN (by decide)
    simp only [pshut, pput, eff, popen, e2, e4, e5, e6, e7, sep0, List.nil_append, PSt.mk.injEq, List.append_assoc, true_and, and_true]
    refine ⟨by simp, by omega, by omega⟩
/-- a name, ahead of it where it is of -/
def wName (of nm : List UInt8) (p : PSt) : PSt := if of = [] then ptok nm p else ptok nm (ptok [46] (ptok of p))
def rName (of nm : List UInt8) : List UInt8 := if of = [] then nm else of ++ (46 :: nm)
/-- a word as the lexer takes it: begins with a letter -/
def Wordy (s : List UInt8) : Prop := hdW s = true
theorem Wordy.ne {s : List UInt8} (h : Wordy s) : s ≠ [] := fun e => by subst e; cases h
theorem Wordy.br {s : List UInt8} (h : Wordy s) : s ≠ [123] ∧ s ≠ [40] ∧ s ≠ [125] ∧ s ≠ [41] := by
  refine ⟨?_, ?_, ?_, ?_⟩ <;> (intro e; subst e; revert h; unfold Wordy; decide)
theorem tok_is {s : List UInt8} (h : s ≠ []) (hb : s ≠ [123] ∧ s ≠ [40] ∧ s ≠ [125] ∧ s ≠ [41]) : Is (ptok s) (fun _ => s) (lt s) 0 :=
  ⟨Int.le_refl _, fun _ => h, fun p hp => ptok_eff hp hb.1 hb.2.1 hb.2.2.1 hb.2.2.2⟩
/-- one piece and then another, with nothing between -/
theorem Is.seq {f g : PSt → PSt} {s t : Bool → List UInt8} {l l2 : UInt8} {n n2 : Int} (h : Is f s l n) (k : Is g t l2 n2) (hs : ∀ b, sepL l (t b) = []) : Is (fun p => g (f p)) (fun b => s b ++ t b) l2 (max n n2) := by
  refine ⟨by have := h.1; omega, fun b => by have := h.2.1 b; simp [this], fun p hp => ?_⟩
  show g (f p) = eff (s p.tight ++ t p.tight) l2 (max n n2) p
  rw [h.2.2 p hp, k.2.2 _ (eff_ok hp), eff_comp (h.2.1 _), eff_tight, hs]; rfl
/-- one piece, a gap, and another -/
theorem Is.gap {f g : PSt → PSt} {s t : Bool → List UInt8} {l l2 : UInt8} {n n2 : Int} (h : Is f s l n) (k : Is g t l2 n2) (hs : sepL l (t true) = []) : Is (fun p => g (pgap [32] (f p))) (fun b => s b ++ (gp b ++ t b)) l2 (max n n2) := by
  refine ⟨by have := h.1; omega, fun b => by have := h.2.1 b; simp [this], fun p hp => ?_⟩
  show g (pgap [32] (f p)) = eff (s p.tight ++ (gp p.tight ++ t p.tight)) l2 (max n n2) p
  rw [h.2.2 p hp]
  rcases pgap_eff (s := s p.tight) (l := l) (n := n) (p := p) [32] with ⟨e, ht⟩ | ⟨e, ht⟩
  · rw [e, k.2.2 _ (eff_ok hp), eff_comp (h.2.1 _), eff_tight, ht, hs]; rfl
  · rw [e]
    refine (k.2.2 _ (show p.lv ≤ max p.most (p.lv + n) by omega)).trans ?_
    show eff (t p.tight) l2 n2 _ = _
    rw [ht]
    unfold eff
    rw [sepL_app (h.2.1 _), sep0]
    simp only [PSt.mk.injEq, List.append_assoc, true_and, List.nil_append]
    refine ⟨rfl, ?_⟩
    omega
theorem Is.conv {f : PSt → PSt} {s s' : Bool → List UInt8} {l l' : UInt8} {n n' : Int} (h : Is f s l n) (e : s = s') (e2 : l = l') (e3 : n = n') : Is f s' l' n' := by subst e e2 e3; exact h
theorem name_is {of nm : List UInt8} (h : of = [] ∨ Wordy of) (h2 : Wordy nm) : Is (wName of nm) (fun _ => rName of nm) (lt nm) 0 := by
  unfold wName rName
  rcases h with rfl | h
  · exact tok_is h2.ne h2.br
  · have hne := h.ne
    have hd : sepL (lt of) [46] = [] := sepN (by decide)
    have hz : lt [46] = 0 := by decide
    have h1 := ((tok_is hne h.br).seq (tok_is (s := [46]) (by simp) (by decide)) (fun _ => hd)).seq (tok_is h2.ne h2.br) (fun _ => by rw [hz]; exact sep0 _)
    have h3 : Is (fun p => ptok nm (ptok [46] (ptok of p))) (fun _ => of ++ (46 :: nm)) (lt nm) 0 := h1.conv (by funext _; simp) rfl (by omega)
    refine ⟨h3.1, fun b => by show (if of = [] then nm else of ++ (46 :: nm)) ≠ []; rw [if_neg hne]; simp, fun p hp => ?_⟩
    show (if of = [] then ptok nm p else ptok nm (ptok [46] (ptok of p))) = eff (if of = [] then nm else of ++ (46 :: nm)) (lt nm) 0 p
    rw [if_neg hne, if_neg hne]
    exact h3.2.2 p hp
end Go.Proofs.YtaddhpeainliiaaGreatDoor.Id
