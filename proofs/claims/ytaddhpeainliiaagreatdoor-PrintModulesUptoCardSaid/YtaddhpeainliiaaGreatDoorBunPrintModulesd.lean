/- Texts of this repo, bundled: IdWp, DenGap, DenByte, DenQuo, DenQuoL, DenQuoR, DenGapR, DenKey, DenSign, DenNum, DenTok, DenTokR, DenNext, DenCut. -/
import Derived.Test.YtaddhpeainliiaaGreatDoorBunPrintModulesc
import Derived.Lib.ParseIntB
import Derived.Lib.ItoaNum
/-! ## IdWp -/
namespace Go.Proofs.YtaddhpeainliiaaGreatDoor.Id
open Go
set_option linter.unusedVariables false
set_option linter.unusedSimpArgs false
theorem WkVs.refl (σ : St) : ∀ l : List V, WkVs σ l l
  | [] => trivial
  | _ :: r => ⟨.inl rfl, WkVs.refl σ r⟩
theorem WkB.box {σ : St} {i : Nat} {cs : List V} (h : getB σ.b i = some cs) : ∃ us, getB σ.b i = some us ∧ WkVs σ cs us := ⟨cs, h, WkVs.refl σ cs⟩
def WP {α : Type} (X : Given) (t : T α) (Q : α → Prop) : Prop := ∃ a, Q a ∧ Den Tryz.prog tt X t a
/-- a call of a function comes to something of which R holds -/
def DoesQ (X : Given) (f : FuncId) (args : List V) (bx : List (List V)) (R : Out → Prop) : Prop := ∃ o, R o ∧ Does X f args bx o
section
variable {X : Given} {α : Type} {Q : α → Prop}
theorem WP.leaf {a : α} (h : Q a) : WP X (.leaf a) Q := ⟨a, h, Den.leaf a⟩
theorem WP.iteT {b : Bool} {x y : T α} (h : b = true) (k : WP X x Q) : WP X (.ite b x y) Q := let ⟨a, q, k⟩ := k; ⟨a, q, Den.iteT h k⟩
theorem WP.iteF {b : Bool} {x y : T α} (h : b = false) (k : WP X y Q) : WP X (.ite b x y) Q := let ⟨a, q, k⟩ := k; ⟨a, q, Den.iteF h k⟩
theorem WP.ite {b : Bool} {x y : T α} (h1 : b = true → WP X x Q) (h2 : b = false → WP X y Q) : WP X (.ite b x y) Q := by
  cases b
  · exact .iteF rfl (h2 rfl)
  · exact .iteT rfl (h1 rfl)
theorem WP.dec {p : Prop} [Decidable p] {x y : T α} (h1 : p → WP X x Q) (h2 : ¬ p → WP X y Q) : WP X (.ite (decide p) x y) Q :=
  .ite (fun h => h1 (of_decide_eq_true h)) (fun h => h2 (of_decide_eq_false h))
theorem WP.asrt {p : Prop} {x : T α} (h : p) (k : WP X x Q) : WP X (.asrt p x) Q := let ⟨a, q, k⟩ := k; ⟨a, q, Den.asrt h k⟩
theorem WP.idx {es : List (List D)} {j : Int} {f : List D → T α} (e : List D) (h0 : 0 ≤ j) (h : es[j.toNat]? = some e) (k : WP X (f e) Q) : WP X (.idx es j f) Q := let ⟨a, q, k⟩ := k; ⟨a, q, Den.idx e h0 h k⟩
theorem WP.bytes {es : List (List D)} {f : ByteArray → T α} (bs : List UInt8) (h : es = bs.map byteD) (k : WP X (f ⟨bs.toArray⟩) Q) : WP X (.bytes es f) Q := let ⟨a, q, k⟩ := k; ⟨a, q, Den.bytes bs h k⟩
theorem WP.mono {t : T α} {R : α → Prop} (h : WP X t R) (k : ∀ a, R a → Q a) : WP X t Q := let ⟨a, q, d⟩ := h; ⟨a, k a q, d⟩
theorem WP.use {f : FuncId} {args : List V} {bx : List (List V)} {g : Out → T α} {R : Out → Prop} (h : DoesQ X f args bx R) (k : ∀ o, R o → WP X (g o) Q) : WP X (.call f args bx g) Q := by
  obtain ⟨o, hR, hD⟩ := h
  obtain ⟨a, q, d⟩ := k o hR
  exact ⟨a, q, hD α g a d⟩
theorem WP.use1 {f : FuncId} {args : List V} {bx : List (List V)} {g : Out → T α} {o : Out} (h : Does X f args bx o) (k : WP X (g o) Q) : WP X (.call f args bx g) Q := by
  obtain ⟨a, q, d⟩ := k
  exact ⟨a, q, h α g a d⟩
theorem WP.bind {β : Type} {t : T α} {f : α → T β} {R : β → Prop} (h : WP X t Q) (k : ∀ a, Q a → WP X (f a) R) : WP X (t.bind f) R := by
  obtain ⟨a, q, d⟩ := h
  obtain ⟨b, r, e⟩ := k a q
  exact ⟨b, r, d.bind e⟩
/-- one round of a loop: it ends in another round, or leaves the loop -/
def Round (X : Given) (c : Code) (k : Ex → St → T α) (Q : α → Prop) : Ex × St → Prop
  | (.normal, σ) => WP X (.loop c σ k) Q
  | (.exit i, σ) => ∃ σ3, Wk σ3 σ ∧ WP X (k (.exit i) σ3) Q
  | (.ret, σ) => ∃ σ3, Wk σ3 σ ∧ WP X (k .ret σ3) Q
  | (.pan v, σ) => WP X (k (.pan v) σ) Q
theorem WP.roundG (G : Option (List Nat)) {c : Code} {σ : St} {k : Ex → St → T α} (σ' : St) (w : Wk σ' σ) (h : WP X (evCode tt G c σ'.t σ'.b) (Round X c k Q)) : WP X (.loop c σ k) Q := by
  obtain ⟨⟨e, σ2⟩, q, d⟩ := h
  cases e with
  | normal => obtain ⟨a, qa, da⟩ := q; exact ⟨a, qa, Den.loopN σ' w d da⟩
  | exit i => obtain ⟨σ3, w3, a, qa, da⟩ := q; exact ⟨a, qa, Den.loopW σ' σ3 (by simp) (by simp) w d w3 da⟩
  | ret => obtain ⟨σ3, w3, a, qa, da⟩ := q; exact ⟨a, qa, Den.loopW σ' σ3 (by simp) (by simp) w d w3 da⟩
  | pan v => obtain ⟨a, qa, da⟩ := q; exact ⟨a, qa, Den.loopX σ' (by simp) w d da⟩
theorem WP.round {c : Code} {σ : St} {k : Ex → St → T α} (σ' : St) (w : Wk σ' σ) (h : WP X (evCode tt none c σ'.t σ'.b) (Round X c k Q)) : WP X (.loop c σ k) Q := WP.roundG none σ' w h
end
/-- a function's body; G: the temporaries that outlive a region -/
theorem DoesQ.ofG {X : Given} (G : List Nat) {f : FuncId} {fn : Func} {args : List V} {bx : List (List V)} {R : Out → Prop} (hf : Tryz.prog.funcs[f]? = some fn) (hn : (fn.name == "runtime.NumGoroutine") = false) (h : WP X (evBody tt (some G) fn args bx) R) : DoesQ X f args bx R :=
  let ⟨o, r, d⟩ := h; ⟨o, r, fun _ _ _ g => Den.enter o hf hn d g⟩
theorem DoesQ.of {X : Given} {f : FuncId} {fn : Func} {args : List V} {bx : List (List V)} {R : Out → Prop} (hf : Tryz.prog.funcs[f]? = some fn) (hn : (fn.name == "runtime.NumGoroutine") = false) (h : WP X (evBody tt none fn args bx) R) : DoesQ X f args bx R :=
  let ⟨o, r, d⟩ := h; ⟨o, r, Does.of hf hn d⟩
theorem DoesQ.mono {X : Given} {f : FuncId} {args : List V} {bx : List (List V)} {R S : Out → Prop} (h : DoesQ X f args bx R) (k : ∀ o, R o → S o) : DoesQ X f args bx S := let ⟨o, r, d⟩ := h; ⟨o, k o r, d⟩
theorem DoesQ.eq {X : Given} {f : FuncId} {args : List V} {bx : List (List V)} {o : Out} (h : DoesQ X f args bx (· = o)) : Does X f args bx o := by obtain ⟨_, rfl, d⟩ := h; exact d
theorem Does.toQ {X : Given} {f : FuncId} {args : List V} {bx : List (List V)} {o : Out} {R : Out → Prop} (h : Does X f args bx o) (r : R o) : DoesQ X f args bx R := ⟨o, r, h⟩
end Go.Proofs.YtaddhpeainliiaaGreatDoor.Id
/-! ## DenGap -/
namespace Go.Proofs.YtaddhpeainliiaaGreatDoor.Id
open Go
set_option linter.unusedVariables false
set_option linter.unusedSimpArgs false
def isSp (c : UInt8) : Bool := decide (c.toNat = 32) || decide (c.toNat = 9) || decide (c.toNat = 10) || decide (c.toNat = 13)
def isSl (c : UInt8) : Bool := decide (c.toNat = 47)
def isNl (c : UInt8) : Bool := decide (c.toNat = 10)
def headSl : List UInt8 → Bool
  | [] => false
  | d :: _ => isSl d
/-- how many bytes of a gap stand at the front; true: in a comment -/
def gapL : Bool → List UInt8 → Nat
  | _, [] => 0
  | true, c :: r => if isNl c = true then 1 + gapL false r else 1 + gapL true r
  | false, c :: r => if isSp c = true then 1 + gapL false r else if (isSl c && headSl r) = true then 1 + gapL true r else 0
theorem gapL_le : ∀ (l : List UInt8) (b : Bool), gapL b l ≤ l.length
  | [], b => by cases b <;> simp [gapL]
  | c :: r, true => by
    have := gapL_le r false; have := gapL_le r true
    unfold gapL; simp only [List.length_cons]; split <;> omega
  | c :: r, false => by
    have := gapL_le r false; have := gapL_le r true
    unfold gapL; simp only [List.length_cons]; split
    · omega
    · split <;> omega
theorem gapL_true_take (l : List UInt8) : gapL true l = (l.takeWhile (fun c => !isNl c)).length + gapL false (l.drop (l.takeWhile (fun c => !isNl c)).length) := by
  induction l with
  | nil => simp [gapL]
  | cons c r ih =>
    by_cases h : isNl c = true
    · have h2 : isSp c = true := by unfold isNl at h; unfold isSp; simp at h; simp [h]
      simp [gapL, h, h2]
    · simp only [Bool.not_eq_true] at h
      simp only [gapL, h]
      rw [List.takeWhile_cons, h]
      simp only [Bool.not_false, if_true, List.length_cons, List.drop_succ_cons, Bool.false_eq_true, if_false]
      omega
/-- the gap is one of what is cut behind it too -/
theorem gapL_cut : ∀ (l : List UInt8) (b : Bool) (m : Nat), gapL b l ≤ m → gapL b (l.take m) = gapL b l
  | [], b, m, h => by simp
  | c :: r, b, 0, h => by
    have : gapL b (c :: r) = 0 := by omega
    rw [this]; cases b <;> simp [gapL]
  | c :: r, true, m + 1, h => by
    rw [List.take_succ_cons]
    unfold gapL at h ⊢
    by_cases hc : isNl c = true
    · simp only [hc, if_true] at h ⊢
      rw [gapL_cut r false m (by omega)]
    · simp only [hc, if_false, Bool.false_eq_true] at h ⊢
      rw [gapL_cut r true m (by omega)]
  | c :: r, false, m + 1, h => by
    rw [List.take_succ_cons]
    unfold gapL at h ⊢
    by_cases hc : isSp c = true
    · simp only [hc, if_true] at h ⊢
      rw [gapL_cut r false m (by omega)]
    · simp only [hc, if_false, Bool.false_eq_true] at h ⊢
      cases r with
      | nil => simp
      | cons d r =>
        by_cases hd : (isSl c && headSl (d :: r)) = true
        · simp only [hd, if_true] at h ⊢
          have h1 : 1 ≤ gapL true (d :: r) := by unfold gapL; split <;> omega
          have h2 : headSl ((d :: r).take m) = headSl (d :: r) := by
            cases m with
            | zero => omega
            | succ m => simp [headSl]
          rw [h2, if_pos hd, gapL_cut (d :: r) true m (by omega)]
        · rw [if_neg hd]
          cases m with
          | zero => simp [headSl]
          | succ m => rw [List.take_succ_cons]; exact if_neg (by simpa [headSl] using hd)
/-- behind a gap no gap stands -/
theorem gapL_after : ∀ (l : List UInt8) (b : Bool), gapL false (l.drop (gapL b l)) = 0
  | [], b => by cases b <;> simp [gapL]
  | c :: r, true => by
    by_cases hc : isNl c = true
    · simp only [gapL, hc, if_true]; rw [Nat.add_comm, List.drop_succ_cons]; exact gapL_after r false
    · simp only [gapL, hc, if_false, Bool.false_eq_true]; rw [Nat.add_comm, List.drop_succ_cons]; exact gapL_after r true
  | c :: r, false => by
    by_cases hc : isSp c = true
    · simp only [gapL, hc, if_true]; rw [Nat.add_comm, List.drop_succ_cons]; exact gapL_after r false
    · by_cases hd : (isSl c && headSl r) = true
      · simp only [gapL, hc, if_false, Bool.false_eq_true, hd, if_true]; rw [Nat.add_comm, List.drop_succ_cons]; exact gapL_after r true
      · have : gapL false (c :: r) = 0 := by simp only [gapL, hc, if_false, Bool.false_eq_true, hd]
        rw [this]; exact this


theorem idx_sp_iff (c : UInt8) : (Lib.indexByte [32, 9, 10, 13] c ≥ 0) ↔ isSp c = true := by
  have : ∀ n : Fin 256, (decide (Lib.indexByte [32, 9, 10, 13] (UInt8.ofNat n.val) ≥ 0)) = isSp (UInt8.ofNat n.val) := by decide +kernel
  have h := this ⟨c.toNat, c.toNat_lt⟩
  simp only [UInt8.ofNat_toNat] at h
  rw [← h]; simp
variable {X : Given}
/-- what lex.whole tells of digits -/
def wholeV (l : List UInt8) : V :=
  match Lib.parseIntB 64 l with
  | .ok v => .tuple [vI v, vB (decide (Lib.itoa v = l))]
  | .range => .tuple [vI 9223372036854775807, vB false]
  | _ => .undef
/-- what is given of the library's functions -/
structure LibX (X : Given) : Prop where
  wh : ∀ (s : ByteArray) (c : UInt8) (r : List UInt8), L s = c :: r → 48 ≤ c.toNat ∧ c.toNat ≤ 57 → s.size ≤ 1099511627776 → Lib.parseIntB 64 (L s) ≠ Lib.NumEnd.syntax → X 142 [vS s] [] (.ret (wholeV (L s)) [])
  ib : ∀ (s : ByteArray) (c : UInt8), X 174 [vS s, vC c] [] (.ret (vI (Lib.indexByte s.data.toList c)) [])
theorem indexByte (hX : LibX X) (s : ByteArray) (c : UInt8) : Does X 134 [vS s, vC c] [] (.ret (vI (Lib.indexByte s.data.toList c)) []) := by
  refine Does.of (Tryz.func134) (by kernel_rfl) ?_
  exact Den.ext _ (hX.ib s c) (Den.leaf _)
theorem hasPrefix (s p : ByteArray) : Does X 135 [vS s, vS p] [] (.ret (vB (decide (L p <+: L s))) []) := by
  refine Does.of (Tryz.func135) (by kernel_rfl) ?_
  refine Does.use (o := .ret (vB (decide (L p <+: L s))) []) (Does.of (Tryz.func175) (by kernel_rfl) ?_) (Den.leaf _)
  by_cases h : p.size ≤ s.size
  · refine Den.iteT (by simp; omega) ?_
    refine Den.asrt (by simp only [Option.getD_none, Option.getD_some]; omega) ?_
    refine Den.leaf' ?_
    congr 3
    have e : L (s.extract 0 p.size) = (L s).take p.size := by rw [L_extract]; simp
    show decide ((s.extract (Option.getD none (0 : Int)).toNat ((p.size : Int)).toNat) = p) = _
    have e2 : s.extract (Option.getD none (0 : Int)).toNat ((p.size : Int)).toNat = s.extract 0 p.size := rfl
    rw [e2, decide_eq_decide]
    constructor
    · intro h1
      rw [← h1, e]; exact List.take_prefix _ _
    · intro h1
      refine L_inj ?_
      rw [e, ← L_length]
      exact (List.prefix_iff_eq_take.1 h1).symm
  · refine Den.iteF (by simp; omega) ?_
    refine Den.leaf' ?_
    congr 3
    have : ¬ (L p <+: L s) := fun h1 => h (by have := h1.length_le; rw [L_length, L_length] at this; exact this)
    simp [this]
theorem nl_fn (c : UInt8) : Does X 137 [vC c] [] (.ret (vB (!isNl c)) []) := by
  refine Does.of (Tryz.func137) (by kernel_rfl) ?_
  refine Den.leaf' ?_
  unfold isNl
  congr 4
  have : ((c.toNat : Int) = 10) ↔ (c.toNat = 10) := by omega
  simp [this]
/-- a run of bytes of a kind -/
theorem run_loop (s : ByteArray) (hs : s.size ≤ 1048576) (i : Nat) (f : FuncId) (p : UInt8 → Bool) (hf : ∀ c, Does X f [vC c] [] (.ret (vB (p c)) [])) (K : Ex → St → T Out) (o : Out) :
    ∀ (r : List UInt8) (n : Nat), i + n ≤ s.size → (L s).drop (i + n) = r → Den Tryz.prog tt X (K (.exit 0) ⟨[(7, vI ((n + (r.takeWhile p).length : Nat) : Int))], []⟩) o → ∀ σ : St, getT σ.t 0 = vS s → getT σ.t 1 = vI i → getT σ.t 2 = .fn f [] [] → getT σ.t 7 = vI n →
      Den Tryz.prog tt X (.loop (lp Tryz.f136 0) σ K) o
  | [], n, hn, h, hK, σ, h0, h1, h2, h7 => by
    have hi := drop_none h
    rw [L_length] at hi
    refine Den.loopW (G := none) (σ2 := ?s1) (e := .exit 0) ⟨[(0, vS s), (1, vI i), (2, .fn f [] []), (7, vI n)], []⟩ ⟨[(7, vI n)], []⟩ (by simp) (by simp) ⟨⟨.inl h0.symm, .inl h1.symm, .inl h2.symm, .inl h7.symm, trivial⟩, trivial⟩ ?b1 ⟨⟨.inl ?w1, trivial⟩, trivial⟩ ?k1
    case b1 =>
      refine Den.iteF (by rw [wrapI (by omega) (by omega)]; simp; omega) ?_
      exact Den.leaf _
    case w1 => rfl
    case k1 => simpa using hK
  | c :: r, n, hn, h, hK, σ, h0, h1, h2, h7 => by
    obtain ⟨hb, hi⟩ := bt_drop h
    have hr : (L s).drop (i + (n + 1)) = r := (drop_some h).2.2
    by_cases hc : p c = true
    · refine Den.loopN (G := none) (σ2 := ?s2) ⟨[(0, vS s), (1, vI i), (2, .fn f [] []), (7, vI n)], []⟩ ⟨⟨.inl h0.symm, .inl h1.symm, .inl h2.symm, .inl h7.symm, trivial⟩, trivial⟩ ?b2 ?r2
      case b2 =>
        refine Den.iteT (by rw [wrapI (by omega) (by omega)]; simp; omega) ?_
        refine Den.asrt (by rw [wrapI (by omega) (by omega)]; omega) ?_
        refine Does.use (o := .ret (vB (p c)) []) ?_ ?_
        · rw [wrapI (by omega) (by omega), show ((i : Int) + (n : Int)) = ((i + n : Nat) : Int) by omega, hb]; exact hf c
        · refine Den.iteT hc ?_
          exact Den.leaf _
      case r2 =>
        refine run_loop s hs i f p hf K o r (n + 1) (by omega) hr ?_ _ rfl rfl rfl ?_
        · rw [List.takeWhile_cons, if_pos hc] at hK
          simp only [List.length_cons] at hK
          rwa [show n + 1 + (r.takeWhile p).length = n + ((r.takeWhile p).length + 1) by omega]
        · show vI (IntKind.i64.wrap ((n : Int) + 1)) = _
          rw [wrapI (by omega) (by omega)]; rfl
    · refine Den.loopW (G := none) (σ2 := ?s3) (e := .exit 0) ⟨[(0, vS s), (1, vI i), (2, .fn f [] []), (7, vI n)], []⟩ ⟨[(7, vI n)], []⟩ (by simp) (by simp) ⟨⟨.inl h0.symm, .inl h1.symm, .inl h2.symm, .inl h7.symm, trivial⟩, trivial⟩ ?b3 ⟨⟨.inl ?w3, trivial⟩, trivial⟩ ?k3
      case b3 =>
        refine Den.iteT (by rw [wrapI (by omega) (by omega)]; simp; omega) ?_
        refine Den.asrt (by rw [wrapI (by omega) (by omega)]; omega) ?_
        refine Does.use (o := .ret (vB (p c)) []) ?_ ?_
        · rw [wrapI (by omega) (by omega), show ((i : Int) + (n : Int)) = ((i + n : Nat) : Int) by omega, hb]; exact hf c
        · refine Den.iteF (by simpa using hc) ?_
          exact Den.leaf _
      case w3 => rfl
      case k3 =>
        rw [List.takeWhile_cons, if_neg hc] at hK
        simpa using hK
theorem run_fn (s : ByteArray) (hs : s.size ≤ 1048576) (i : Nat) (hi : i ≤ s.size) (f : FuncId) (p : UInt8 → Bool) (hf : ∀ c, Does X f [vC c] [] (.ret (vB (p c)) [])) : Does X 136 [vS s, vI i, .fn f [] []] [] (.ret (vI (((L s).drop i).takeWhile p).length) []) := by
  refine Does.of Tryz.func136 (by kernel_rfl) ?_
  refine run_loop s hs i f p hf _ _ ((L s).drop i) 0 (by omega) rfl ?_ _ rfl rfl rfl rfl
  rw [Nat.zero_add]
  exact Den.leaf _
theorem prefix_sl (l : List UInt8) (c : UInt8) (r : List UInt8) (h : l = c :: r) : decide ([47, 47] <+: l) = (isSl c && headSl r) := by
  subst h
  cases r with
  | nil => simp [headSl, List.cons_prefix_cons]
  | cons d r =>
    rw [Bool.eq_iff_iff]
    simp only [decide_eq_true_eq, List.cons_prefix_cons, List.nil_prefix, and_true, headSl, isSl, Bool.and_eq_true, ← UInt8.toNat_inj]
    exact ⟨fun h => ⟨h.1.symm, h.2.symm⟩, fun h => ⟨h.1.symm, h.2.symm⟩⟩
theorem gap_loop (hX : LibX X) (s : ByteArray) (hs : s.size ≤ 1048576) (K : Ex → St → T Out) (o : Out) : ∀ (n i : Nat), s.size - i ≤ n → i ≤ s.size →
    Den Tryz.prog tt X (K (.exit 0) ⟨[(1, vI ((i + gapL false ((L s).drop i) : Nat) : Int))], []⟩) o → Den Tryz.prog tt X (K .ret ⟨[(4, vI ((i + gapL false ((L s).drop i) : Nat) : Int))], []⟩) o →
    ∀ σ : St, getT σ.t 0 = vS s → getT σ.t 1 = vI i → Den Tryz.prog tt X (.loop (lp Tryz.f101 0) σ K) o := by
  intro n
  induction n with
  | zero =>
    intro i h0 h1 hE hR σ g0 g1
    refine Den.loopW (G := none) (σ2 := ?s4) (e := .exit 0) ⟨[(1, vI i), (0, vS s)], []⟩ ⟨[(1, vI i)], []⟩ (by simp) (by simp) ⟨⟨.inl g1.symm, .inl g0.symm, trivial⟩, trivial⟩ ?b4 ⟨⟨.inl ?w4, trivial⟩, trivial⟩ ?k4
    case b4 =>
      refine Den.iteF (by simp; omega) ?_
      exact Den.leaf _
    case w4 => rfl
    case k4 =>
      rw [List.drop_eq_nil_of_le (by rw [L_length]; omega)] at hE
      simpa [gapL] using hE
  | succ n ih =>
    intro i h0 h1 hE hR σ g0 g1
    cases h : (L s).drop i with
    | nil =>
      have h2 := drop_none h
      rw [L_length] at h2
      refine Den.loopW (G := none) (σ2 := ?s5) (e := .exit 0) ⟨[(1, vI i), (0, vS s)], []⟩ ⟨[(1, vI i)], []⟩ (by simp) (by simp) ⟨⟨.inl g1.symm, .inl g0.symm, trivial⟩, trivial⟩ ?b5 ⟨⟨.inl ?w5, trivial⟩, trivial⟩ ?k5
      case b5 =>
        refine Den.iteF (by simp; omega) ?_
        exact Den.leaf _
      case w5 => rfl
      case k5 =>
        rw [h] at hE
        simpa [gapL] using hE
    | cons c r =>
      obtain ⟨hb, hi⟩ := bt_drop h
      have e0 : ((i : Int)).toNat = i := by omega
      have hext : L (s.extract i s.size) = c :: r := by rw [L_extract, h, List.take_of_length_le]; rw [← h, List.length_drop, L_length]; omega
      by_cases hc : isSp c = true
      · refine Den.loopN (G := none) (σ2 := ?s6) ⟨[(1, vI i), (0, vS s)], []⟩ ⟨⟨.inl g1.symm, .inl g0.symm, trivial⟩, trivial⟩ ?b6 ?r6
        case b6 =>
          refine Den.iteT (by simp; omega) ?_
          refine Den.asrt (by omega) ?_
          refine Does.use (by rw [hb]; exact indexByte hX _ c) ?_
          refine Den.iteT (by simpa using (idx_sp_iff c).mpr hc) ?_
          exact Den.leaf _
        case r6 =>
          have e : i + gapL false ((L s).drop i) = i + 1 + gapL false ((L s).drop (i + 1)) := by
            rw [h, (drop_some h).2.2]; simp only [gapL, hc, if_true]; omega
          rw [e] at hE hR
          refine ih (i + 1) (by omega) (by omega) hE hR _ rfl ?_
          show vI (IntKind.i64.wrap ((i : Int) + 1)) = _
          rw [wrapI (by omega) (by omega)]; rfl
      · by_cases hd : (isSl c && headSl r) = true
        · have hle : (((L s).drop i).takeWhile (fun c => !isNl c)).length ≤ s.size - i := by
            have := List.takeWhile_sublist (p := fun c => !isNl c) (l := (L s).drop i) |>.length_le
            rw [List.length_drop, L_length] at this; exact this
          have hnl : isNl c = false := by simp only [Bool.and_eq_true] at hd; unfold isSl at hd; unfold isNl; simp at hd; simp [hd.1]
          have hpos : 1 ≤ (((L s).drop i).takeWhile (fun c => !isNl c)).length := by
            rw [h, List.takeWhile_cons, hnl]; simp
          refine Den.loopN (G := none) (σ2 := ?s7) ⟨[(1, vI i), (0, vS s)], []⟩ ⟨⟨.inl g1.symm, .inl g0.symm, trivial⟩, trivial⟩ ?b7 ?r7
          case b7 =>
            refine Den.iteT (by simp; omega) ?_
            refine Den.asrt (by omega) ?_
            refine Does.use (by rw [hb]; exact indexByte hX _ c) ?_
            refine Den.iteF (by simpa using fun x => hc ((idx_sp_iff c).mp x)) ?_
            refine Den.asrt (by simp only [Option.getD_none, Option.getD_some]; omega) ?_
            refine Does.use (hasPrefix _ _) ?_
            refine Den.iteT (by
              show decide ([47, 47] <+: L (s.extract ((i : Int)).toNat ((s.size : Int)).toNat)) = true
              rw [e0, show ((s.size : Int)).toNat = s.size by omega, prefix_sl _ c r hext]; exact hd) ?_
            refine Does.use (run_fn s hs i (by omega) _ _ nl_fn) ?_
            exact Den.leaf _
          case r7 =>
            have e : i + gapL false ((L s).drop i) = i + (((L s).drop i).takeWhile (fun c => !isNl c)).length + gapL false ((L s).drop (i + (((L s).drop i).takeWhile (fun c => !isNl c)).length)) := by
              have g1 : gapL false ((L s).drop i) = gapL true ((L s).drop i) := by
                rw [h]; simp only [gapL, hc, hd, hnl, if_true, if_false, Bool.false_eq_true]
              rw [g1, gapL_true_take, List.drop_drop]; omega
            rw [e] at hE hR
            refine ih _ (by omega) (by omega) hE hR _ rfl ?_
            show vI (IntKind.i64.wrap ((i : Int) + ((((L s).drop i).takeWhile (fun c => !isNl c)).length : Int))) = _
            rw [wrapI (by omega) (by omega)]; rfl
        · have e : gapL false ((L s).drop i) = 0 := by rw [h]; simp only [gapL, hc, hd, if_false, Bool.false_eq_true]
          rw [e] at hE hR
          refine Den.loopW (G := none) (σ2 := ?s8) (e := .ret) ⟨[(1, vI i), (0, vS s)], []⟩ ⟨[(4, vI i)], []⟩ (by simp) (by simp) ⟨⟨.inl g1.symm, .inl g0.symm, trivial⟩, trivial⟩ ?b8 ⟨⟨.inl ?w8, trivial⟩, trivial⟩ ?k8
          case b8 =>
            refine Den.iteT (by simp; omega) ?_
            refine Den.asrt (by omega) ?_
            refine Does.use (by rw [hb]; exact indexByte hX _ c) ?_
            refine Den.iteF (by simpa using fun x => hc ((idx_sp_iff c).mp x)) ?_
            refine Den.asrt (by simp only [Option.getD_none, Option.getD_some]; omega) ?_
            refine Does.use (hasPrefix _ _) ?_
            refine Den.iteF (by
              show decide ([47, 47] <+: L (s.extract ((i : Int)).toNat ((s.size : Int)).toNat)) = false
              rw [e0, show ((s.size : Int)).toNat = s.size by omega, prefix_sl _ c r hext]; simpa using hd) ?_
            exact Den.leaf _
          case w8 => rfl
          case k8 => simpa using hR
theorem gap_fn (hX : LibX X) (s : ByteArray) (hs : s.size ≤ 1048576) (i : Nat) (hi : i ≤ s.size) : Does X 101 [vS s, vI i] [] (.ret (vI ((i + gapL false ((L s).drop i) : Nat) : Int)) []) := by
  refine Does.of Tryz.func101 (by kernel_rfl) ?_
  exact gap_loop hX s hs _ _ s.size i (by omega) hi (Den.leaf _) (Den.leaf _) _ rfl rfl
end Go.Proofs.YtaddhpeainliiaaGreatDoor.Id
/-! ## DenByte -/
namespace Go.Proofs.YtaddhpeainliiaaGreatDoor.Id
open Go
set_option linter.unusedVariables false
set_option linter.unusedSimpArgs false
variable {X : Given}
def isLetter (c : Int) : Bool := decide (c = 95) || (decide (97 ≤ c) && decide (c ≤ 122)) || (decide (65 ≤ c) && decide (c ≤ 90))
def isDigit (c : Int) : Bool := decide (48 ≤ c) && decide (c ≤ 57)
def isL (c : UInt8) : Bool := isLetter (c.toNat : Int)
def isD (c : UInt8) : Bool := isDigit (c.toNat : Int)
def isW (c : UInt8) : Bool := isL c || isD c
def nib (c : UInt8) : Option Nat := if 48 ≤ c.toNat ∧ c.toNat ≤ 57 then some (c.toNat - 48) else if 97 ≤ c.toNat ∧ c.toNat ≤ 102 then some (c.toNat - 87) else none
theorem wrapC {x : Int} (h0 : 0 ≤ x) (h : x ≤ 255) : IntKind.wrap .u8 x = x := by
  rw [IntKind.wrap_u8]; omega
theorem ldigit (c : UInt8) : Does X 140 [vC c] [] (.ret (vB (isD c)) []) := by
  refine Does.of Tryz.func140 (by kernel_rfl) ?_
  unfold isD isDigit
  repeat' first | refine Den.leaf' ?_ | refine Den.ite (fun _ => ?_) (fun _ => ?_)
  all_goals first | (simp_all; done) | (simp_all; omega)
theorem rdigit (c : UInt8) : Does X 149 [vC c] [] (.ret (vB (isD c)) []) := by
  refine Does.of Tryz.func149 (by kernel_rfl) ?_
  unfold isD isDigit
  repeat' first | refine Den.leaf' ?_ | refine Den.ite (fun _ => ?_) (fun _ => ?_)
  all_goals first | (simp_all; done) | (simp_all; omega)
theorem lletter (c : UInt8) : Does X 138 [vC c] [] (.ret (vB (isL c)) []) := by
  refine Does.of Tryz.func138 (by kernel_rfl) ?_
  unfold isL isLetter
  repeat' first | refine Den.leaf' ?_ | refine Den.ite (fun _ => ?_) (fun _ => ?_)
  all_goals first | (simp_all; done) | (simp_all; omega)
theorem rletter (c : UInt8) : Does X 148 [vC c] [] (.ret (vB (isL c)) []) := by
  refine Does.of Tryz.func148 (by kernel_rfl) ?_
  unfold isL isLetter
  repeat' first | refine Den.leaf' ?_ | refine Den.ite (fun _ => ?_) (fun _ => ?_)
  all_goals first | (simp_all; done) | (simp_all; omega)
theorem lboth (c : UInt8) : Does X 139 [vC c] [] (.ret (vB (isW c)) []) := by
  refine Does.of Tryz.func139 (by kernel_rfl) ?_
  refine Does.use (lletter c) ?_
  unfold isW
  refine Den.ite (fun h => ?_) (fun h => ?_)
  · refine Den.leaf' ?_
    simp [h]
  · refine Does.use (ldigit c) ?_
    refine Den.leaf' ?_
    simp [h]
theorem isD_iff (c : UInt8) : isD c = true ↔ 48 ≤ c.toNat ∧ c.toNat ≤ 57 := by
  unfold isD isDigit
  simp only [Bool.and_eq_true, decide_eq_true_eq]; omega
theorem lnib (c : UInt8) : Does X 186 [vC c] [] (.ret (vI (match nib c with | some x => (x : Int) | none => -1)) []) := by
  refine Does.of Tryz.func186 (by kernel_rfl) ?_
  refine Does.use (ldigit c) ?_
  have hd := isD_iff c
  have hlt := c.toNat_lt
  by_cases h : isD c = true
  · refine Den.iteT h ?_
    refine Den.leaf' ?_
    have h1 := hd.1 h
    have e : nib c = some (c.toNat - 48) := by unfold nib; rw [if_pos h1]
    rw [e, wrapC (x := (c.toNat : Int) - 48) (by omega) (by omega), wrapI (by omega) (by omega)]
    congr 3; simp only; omega
  · refine Den.iteF (by simpa using h) ?_
    have h1 : ¬ (48 ≤ c.toNat ∧ c.toNat ≤ 57) := fun x => h (hd.2 x)
    by_cases h2 : 97 ≤ c.toNat
    · refine Den.iteT (by simp; omega) ?_
      by_cases h3 : c.toNat ≤ 102
      · refine Den.iteT (by simp; omega) ?_
        refine Den.leaf' ?_
        have e : nib c = some (c.toNat - 87) := by unfold nib; rw [if_neg h1, if_pos ⟨h2, h3⟩]
        rw [e, wrapC (x := (c.toNat : Int) - 97) (by omega) (by omega), wrapI (x := (c.toNat : Int) - 97) (by omega) (by omega), wrapI (by omega) (by omega)]
        congr 3; simp only; omega
      · refine Den.iteF (by simp; omega) ?_
        refine Den.leaf' ?_
        have e : nib c = none := by unfold nib; rw [if_neg h1, if_neg (fun x => h3 x.2)]
        rw [e]
    · refine Den.iteF (by simp; omega) ?_
      refine Den.leaf' ?_
      have e : nib c = none := by unfold nib; rw [if_neg h1, if_neg (fun x => h2 x.1)]
      rw [e]
theorem rhalf (c : UInt8) : Does X 220 [vC c] [] (.ret (.d (.int .u8 (match nib c with | some x => (x : Int) | none => 16))) []) := by
  refine Does.of Tryz.func220 (by kernel_rfl) ?_
  refine Does.use (rdigit c) ?_
  have hd := isD_iff c
  have hlt := c.toNat_lt
  by_cases h : isD c = true
  · refine Den.iteT h ?_
    refine Den.leaf' ?_
    have h1 := hd.1 h
    have e : nib c = some (c.toNat - 48) := by unfold nib; rw [if_pos h1]
    rw [e, wrapC (x := (c.toNat : Int) - 48) (by omega) (by omega)]
    congr 3; simp only; omega
  · refine Den.iteF (by simpa using h) ?_
    have h1 : ¬ (48 ≤ c.toNat ∧ c.toNat ≤ 57) := fun x => h (hd.2 x)
    by_cases h2 : 97 ≤ c.toNat
    · refine Den.iteT (by simp; omega) ?_
      by_cases h3 : c.toNat ≤ 102
      · refine Den.iteT (by simp; omega) ?_
        refine Den.leaf' ?_
        have e : nib c = some (c.toNat - 87) := by unfold nib; rw [if_neg h1, if_pos ⟨h2, h3⟩]
        rw [e, wrapC (x := (c.toNat : Int) - 97) (by omega) (by omega), wrapC (by omega) (by omega)]
        congr 3; simp only; omega
      · refine Den.iteF (by simp; omega) ?_
        refine Den.leaf' ?_
        have e : nib c = none := by unfold nib; rw [if_neg h1, if_neg (fun x => h3 x.2)]
        rw [e]
    · refine Den.iteF (by simp; omega) ?_
      refine Den.leaf' ?_
      have e : nib c = none := by unfold nib; rw [if_neg h1, if_neg (fun x => h2 x.1)]
      rw [e]
end Go.Proofs.YtaddhpeainliiaaGreatDoor.Id
/-! ## DenQuo -/
namespace Go.Proofs.YtaddhpeainliiaaGreatDoor.Id
open Go
set_option linter.unusedVariables false
set_option linter.unusedSimpArgs false
variable {X : Given}
theorem byte_all {p : UInt8 → Bool} (h : (List.range 256).all (fun n => p (UInt8.ofNat n)) = true) (c : UInt8) : p c = true := by
  have := (List.all_eq_true.mp h) c.toNat (List.mem_range.mpr c.toNat_lt)
  simpa using this
theorem nib_lt {c : UInt8} {x : Nat} (h : nib c = some x) : x < 16 := by
  unfold nib at h
  split at h
  · injection h; omega
  · split at h
    · injection h; omega
    · cases h
def pc : List UInt8 → Option (UInt8 × Nat)
  | [] => none
  | c :: r =>
    if c.toNat = 92 then
      match r with
      | [] => none
      | d :: r' =>
        if d.toNat = 110 then some (10, 2) else if d.toNat = 116 then some (9, 2) else if d.toNat = 34 ∨ d.toNat = 92 then some (d, 2)
        else if d.toNat = 120 then
          match r' with
          | a :: b :: _ => (match nib a, nib b with
            | some x, some y => some (UInt8.ofNat (16 * x + y), 4)
            | _, _ => none)
          | _ => none
        else none
    else if c.toNat < 32 ∨ 126 < c.toNat ∨ c.toNat = 34 then none else some (c, 1)
def pcI (l : List UInt8) : Int × Int := match pc l with
  | none => (0, 0)
  | some (b, n) => ((b.toNat : Int), (n : Int))
def nibI (c : UInt8) : Int := match nib c with | some x => (x : Int) | none => -1
theorem bits_l : ∀ a b : Fin 16, IntKind.u8.wrap (IntKind.i64.wrap ((BitVec.ofInt IntKind.i64.bits (IntKind.i64.wrap ((a.val : Int) * 2 ^ min (Int.toNat 4) IntKind.i64.bits)) ||| BitVec.ofInt IntKind.i64.bits (b.val : Int)).toNat : Int)) = ((UInt8.ofNat (16 * a.val + b.val)).toNat : Int) := by decide +kernel
theorem bits_r : ∀ a b : Fin 16, IntKind.u8.wrap ((BitVec.ofInt IntKind.u8.bits (IntKind.u8.wrap ((a.val : Int) * 2 ^ min (Int.toNat 4) IntKind.u8.bits)) ||| BitVec.ofInt IntKind.u8.bits (b.val : Int)).toNat : Int) = ((UInt8.ofNat (16 * a.val + b.val)).toNat : Int) := by decide +kernel
/-- what a piece comes to -/
def pcV (l : List UInt8) : Out := .ret (.tuple [.d (.int .u8 (pcI l).1), vI (pcI l).2]) []
theorem pcV_none {l : List UInt8} (h : pc l = none) : pcV l = .ret (.tuple [.d (.int .u8 0), vI 0]) [] := by unfold pcV pcI; rw [h]
theorem pcV_some {l : List UInt8} {b : UInt8} {n : Nat} (h : pc l = some (b, n)) : pcV l = .ret (.tuple [.d (.int .u8 b.toNat), vI n]) [] := by unfold pcV pcI; rw [h]
set_option maxHeartbeats 4000000 in
theorem lpiece (s : ByteArray) (hs : s.size ≤ 1048576) : Does X 158 [vS s] [] (pcV (L s)) := by
  refine Does.of Tryz.func158 (by kernel_rfl) ?_
  cases h : L s with
  | nil =>
    have hz : s = ⟨#[]⟩ := L_inj h
    refine Den.iteT (by simpa using hz) ?_
    exact Den.leaf' (pcV_none rfl).symm
  | cons c r =>
    obtain ⟨hb0, hi0⟩ := bt_drop (i := 0) (s := s) (c := c) (r := r) (by simpa using h)
    have hsz : s.size = r.length + 1 := by rw [size_eq_L, h]; rfl
    have hb0 : bt s 0 = (c.toNat : Int) := hb0
    have hne : ¬ s = ⟨#[]⟩ := fun e => by rw [e] at h; cases h
    refine Den.iteF (by simpa using hne) ?_
    refine Den.asrt (by omega) ?_
    by_cases h1 : c.toNat < 32
    · refine Den.iteT (by rw [hb0]; simp; omega) ?_
      refine Den.leaf' (pcV_none ?_).symm
      simp only [pc]; rw [if_neg (by omega), if_pos (Or.inl h1)]
    refine Den.iteF (by rw [hb0]; simp; omega) ?_
    refine Den.asrt (by omega) ?_
    by_cases h2 : 126 < c.toNat
    · refine Den.iteT (by rw [hb0]; simp; omega) ?_
      refine Den.leaf' (pcV_none ?_).symm
      simp only [pc]; rw [if_neg (by omega), if_pos (Or.inr (Or.inl h2))]
    refine Den.iteF (by rw [hb0]; simp; omega) ?_
    refine Den.asrt (by omega) ?_
    by_cases h3 : c.toNat = 34
    · refine Den.iteT (by rw [hb0]; simp; omega) ?_
      refine Den.leaf' (pcV_none ?_).symm
      simp only [pc]; rw [if_neg (by omega), if_pos (Or.inr (Or.inr h3))]
    refine Den.iteF (by rw [hb0]; simp; omega) ?_
    refine Den.asrt (by omega) ?_
    by_cases h4 : c.toNat = 92
    rotate_left
    · refine Den.iteT (by rw [hb0]; simp; omega) ?_
      refine Den.asrt (by omega) ?_
      rw [pcV_some (b := c) (n := 1) (by simp only [pc]; rw [if_neg h4, if_neg (by omega)])]
      exact Den.leaf' (by rw [hb0]; rfl)
    refine Den.iteF (by rw [hb0]; simp; omega) ?_
    cases r with
    | nil =>
      refine Den.iteT (by simp; simp at hsz; omega) ?_
      exact Den.leaf' (pcV_none (by simp [pc, h4])).symm
    | cons d r =>
      obtain ⟨hb1, hi1⟩ := bt_drop (i := 1) (s := s) (c := d) (r := r) (by simp [h])
      have hb1 : bt s 1 = (d.toNat : Int) := hb1
      simp only [List.length_cons] at hsz
      refine Den.iteF (by simp; omega) ?_
      refine Den.asrt (by omega) ?_
      by_cases d1 : d.toNat = 110
      · refine Den.iteT (by rw [hb1]; simp; omega) ?_
        rw [pcV_some (b := 10) (n := 2) (by simp [pc, h4, d1])]
        exact Den.leaf _
      refine Den.iteF (by rw [hb1]; simp; omega) ?_
      by_cases d2 : d.toNat = 116
      · refine Den.iteT (by rw [hb1]; simp; omega) ?_
        rw [pcV_some (b := 9) (n := 2) (by simp [pc, h4, d2])]
        exact Den.leaf _
      refine Den.iteF (by rw [hb1]; simp; omega) ?_
      by_cases d3 : d.toNat = 34
      · refine Den.iteT (by rw [hb1]; simp; omega) ?_
        refine Den.iteT (by rw [hb1]; simp; omega) ?_
        refine Den.asrt (by omega) ?_
        rw [pcV_some (b := d) (n := 2) (by simp [pc, h4, d3])]
        exact Den.leaf' (by rw [hb1]; rfl)
      refine Den.iteF (by rw [hb1]; simp; omega) ?_
      by_cases d4 : d.toNat = 92
      · refine Den.iteT (by rw [hb1]; simp; omega) ?_
        refine Den.asrt (by omega) ?_
        rw [pcV_some (b := d) (n := 2) (by simp [pc, h4, d4])]
        exact Den.leaf' (by rw [hb1]; rfl)
      refine Den.iteF (by rw [hb1]; simp; omega) ?_
      by_cases d5 : d.toNat = 120
      rotate_left
      · refine Den.iteF (by rw [hb1]; simp; omega) ?_
        exact Den.leaf' (pcV_none (by simp [pc, h4, d1, d2, d3, d4, d5])).symm
      refine Den.iteT (by rw [hb1]; simp; omega) ?_
      match r, h, hsz with
      | [], h, hsz =>
        refine Den.iteF (by simp at hsz; simp; omega) ?_
        exact Den.leaf' (pcV_none (by simp [pc, h4, d5])).symm
      | [x1], h, hsz =>
        refine Den.iteF (by simp at hsz; simp; omega) ?_
        exact Den.leaf' (pcV_none (by simp [pc, h4, d5])).symm
      | a :: b :: r, h, hsz =>
        obtain ⟨hb2, hi2⟩ := bt_drop (i := 2) (s := s) (c := a) (r := b :: r) (by simp [h])
        obtain ⟨hb3, hi3⟩ := bt_drop (i := 3) (s := s) (c := b) (r := r) (by simp [h])
        have hb2 : bt s 2 = (a.toNat : Int) := hb2
        have hb3 : bt s 3 = (b.toNat : Int) := hb3
        refine Den.iteT (by simp; omega) ?_
        refine Den.asrt (by omega) ?_
        refine Does.use (by rw [hb2]; exact lnib a) ?_
        cases hx : nib a with
        | none =>
          refine Den.iteF (by simp) ?_
          exact Den.leaf' (pcV_none (by simp [pc, h4, d5, hx])).symm
        | some x =>
          refine Den.iteT (by simp) ?_
          refine Den.asrt (by omega) ?_
          refine Does.use (by rw [hb3]; exact lnib b) ?_
          cases hy : nib b with
          | none =>
            refine Den.iteF (by simp) ?_
            exact Den.leaf' (pcV_none (by simp [pc, h4, d5, hx, hy])).symm
          | some y =>
            refine Den.iteT (by simp) ?_
            have ha := lnib (X := X) a
            rw [hx] at ha
            have hb := lnib (X := X) b
            rw [hy] at hb
            refine Den.asrt (by kernel_rfl) ?_
            refine Den.asrt (by omega) ?_
            refine Does.use (by rw [hb2]; exact ha) ?_
            refine Den.asrt (by simp) ?_
            refine Den.asrt (by omega) ?_
            refine Does.use (by rw [hb3]; exact hb) ?_
            refine Den.asrt (by kernel_rfl) ?_
            refine Den.leaf' ?_
            rw [pcV_some (b := UInt8.ofNat (16 * x + y)) (n := 4) (by simp [pc, h4, d5, hx, hy])]
            exact congrArg (fun z => Out.ret (V.tuple [V.d (D.int IntKind.u8 z), vI 4]) []) (bits_l ⟨x, nib_lt hx⟩ ⟨y, nib_lt hy⟩)
/-! ### between the quotes -/
/-- what stands ahead of the closing quote, and how many bytes up to behind it -/
def ql : Nat → List UInt8 → Option (List UInt8 × Nat)
  | 0, _ => none
  | f + 1, [] => none
  | f + 1, c :: r => if c.toNat = 34 then some ([], 1) else
      match pc (c :: r) with
      | none => none
      | some (b, n) => match ql f ((c :: r).drop n) with
        | none => none
        | some (t, m) => some (b :: t, n + m)
theorem pc_pos {l : List UInt8} {b : UInt8} {n : Nat} (h : pc l = some (b, n)) : 1 ≤ n ∧ n ≤ l.length := by
  unfold pc at h
  split at h
  · cases h
  · split at h
    · split at h
      · cases h
      · split at h
        · injection h with h; injection h with h1 h2; simp; omega
        · split at h
          · injection h with h; injection h with h1 h2; simp; omega
          · split at h
            · injection h with h; injection h with h1 h2; simp; omega
            · split at h
              · split at h
                · split at h
                  · injection h with h; injection h with h1 h2; simp; omega
                  · cases h
                · cases h
              · cases h
    · split at h
      · cases h
      · injection h with h; injection h with h1 h2; simp; omega
theorem ql_fuel : ∀ (f g : Nat) (l : List UInt8), l.length < f → l.length < g → ql f l = ql g l
  | 0, _, l, h, _ => by omega
  | f + 1, 0, l, _, h => by omega
  | f + 1, g + 1, [], _, _ => rfl
  | f + 1, g + 1, c :: r, h1, h2 => by
    unfold ql
    split
    · rfl
    · cases hp : pc (c :: r) with
      | none => rfl
      | some q =>
        obtain ⟨b, n⟩ := q
        obtain ⟨p1, p2⟩ := pc_pos hp
        simp only
        rw [ql_fuel f g _ (by rw [List.length_drop]; simp only [List.length_cons] at *; omega) (by rw [List.length_drop]; simp only [List.length_cons] at *; omega)]
def qI (e : Int) (A : List UInt8) (i : Nat) : Option (List UInt8 × Nat) → ByteArray × Int
  | none => (⟨#[]⟩, e)
  | some (t, m) => if A.length + t.length ≤ 4096 then (mkB (A ++ t), ((i + m : Nat) : Int)) else (⟨#[]⟩, e)
theorem quo_arith {z i n f q : Nat} (h1 : z - i = q) (h2 : n ≤ q) (h3 : 1 ≤ n) (h4 : z - i < f + 1) (h5 : i ≤ z) : z - (i + n) < f ∧ i + n ≤ z := by omega
theorem len_snoc {A : List UInt8} {b : UInt8} {m : Nat} (h1 : A.length < m) : (A ++ [b]).length ≤ m := by rw [List.length_append]; exact h1
theorem drop_len {s : ByteArray} {i f : Nat} (h : s.size - i < f) : ((L s).drop i).length < f := by rw [List.length_drop, L_length]; exact h
/-- behind an opening quote: the text and the bytes it takes, the quotes too -/
def quo (r : List UInt8) : Option (List UInt8 × Nat) := match ql (r.length + 1) r with
  | none => none
  | some (t, m) => if t.length ≤ 4096 then some (t, m + 1) else none
end Go.Proofs.YtaddhpeainliiaaGreatDoor.Id
/-! ## DenQuoL -/
namespace Go.Proofs.YtaddhpeainliiaaGreatDoor.Id
open Go
set_option linter.unusedVariables false
set_option linter.unusedSimpArgs false
variable {X : Given}
set_option maxHeartbeats 4000000 in
theorem lquo_loop (s : ByteArray) (hs : s.size ≤ 1048576) (K : Ex → St → T Out) (O : ByteArray × Int → Out)
    (hE : ∀ (j : Nat) (A' : List UInt8), j ≤ s.size → Den Tryz.prog tt X (K (.exit 0) ⟨[(5, vI j), (4, .own (42, here) 1 (A'.map byteD)), (0, vS s)], []⟩) (O (if s.size ≤ j then (⟨#[]⟩, 0) else (mkB A', ((j + 1 : Nat) : Int)))))
    (hR : Den Tryz.prog tt X (K .ret ⟨[(2, vS ⟨#[]⟩), (3, vI 0)], []⟩) (O (⟨#[]⟩, 0))) :
    ∀ (f : Nat) (A : List UInt8) (i : Nat), A.length ≤ 4096 → ((L s).drop i).length < f → i ≤ s.size → ∀ σ : St, getT σ.t 0 = vS s → getT σ.t 5 = vI i → WkV σ (.own (42, here) 1 (A.map byteD)) (getT σ.t 4) →
      Den Tryz.prog tt X (.loop (lp Tryz.f117 0) σ K) (O (qI 0 A i (ql f ((L s).drop i))))
  | 0, A, i, hA, hl, hi, σ, g0, g5, g4 => by omega
  | f + 1, A, i, hA, hl, hi, σ, g0, g5, g4 => by
    have hz : s.size - i < f + 1 := by rw [List.length_drop, L_length] at hl; exact hl
    clear hl
    have wk0 : Wk ⟨[(0, vS s), (5, vI i), (4, .own (42, here) 1 (A.map byteD))], []⟩ σ := ⟨⟨.inl g0.symm, .inl g5.symm, g4, trivial⟩, trivial⟩
    cases h : (L s).drop i with
    | nil =>
      have h1 := drop_none h; rw [L_length] at h1
      refine Den.loopW (G := none) (σ2 := ?s1) (e := .exit 0) _ ⟨[(5, vI i), (4, .own (42, here) 1 (A.map byteD)), (0, vS s)], []⟩ (by simp) (by simp) wk0 ?b1 ?w1 ?k1
      case b1 =>
        refine Den.iteF (by simp; omega) ?_
        exact Den.leaf _
      case w1 => exact ⟨⟨.inl rfl, .inl rfl, .inl rfl, trivial⟩, trivial⟩
      case k1 =>
        have := hE i A hi
        rw [if_pos h1] at this
        simpa [ql, qI] using this
    | cons c r =>
      obtain ⟨hb, hi'⟩ := bt_drop h
      by_cases hq : c.toNat = 34
      · refine Den.loopW (G := none) (σ2 := ?s2) (e := .exit 0) _ ⟨[(5, vI i), (4, .own (42, here) 1 (A.map byteD)), (0, vS s)], []⟩ (by simp) (by simp) wk0 ?b2 ?w2 ?k2
        case b2 =>
          refine Den.iteT (by simp; omega) ?_
          refine Den.asrt (by omega) ?_
          refine Den.iteF (by rw [hb]; simp; omega) ?_
          exact Den.leaf _
        case w2 => exact ⟨⟨.inl rfl, .inl rfl, .inl rfl, trivial⟩, trivial⟩
        case k2 =>
          have := hE i A hi
          rw [if_neg (by omega)] at this
          simp only [ql, hq, if_true, qI, List.append_nil, List.length_nil]
          rw [if_pos (by omega)]
          exact this
      · have e0 : ((i : Int)).toNat = i := by omega
        have e1 : L (s.extract i s.size) = c :: r := by rw [L_extract, h, List.take_of_length_le]; rw [← h, List.length_drop, L_length]; omega
        have hpc : Does X 158 [vS (s.extract ((i : Int)).toNat ((s.size : Int)).toNat)] [] (pcV (c :: r)) := by
          have := lpiece (X := X) (s.extract i s.size) (by simp; omega)
          rw [e1] at this
          rw [e0, show ((s.size : Int)).toNat = s.size by omega]
          exact this
        cases hp : pc (c :: r) with
        | none =>
          rw [pcV_none hp] at hpc
          refine Den.loopW (G := none) (σ2 := ?s3) (e := .ret) _ ⟨[(2, vS ⟨#[]⟩), (3, vI 0)], []⟩ (by simp) (by simp) wk0 ?b3 ?w3 ?k3
          case b3 =>
            refine Den.iteT (by simp; omega) ?_
            refine Den.asrt (by omega) ?_
            refine Den.iteT (by rw [hb]; simp; omega) ?_
            refine Den.asrt (by simp only [Option.getD_none, Option.getD_some]; omega) ?_
            refine Does.use hpc ?_
            refine Den.iteT (by simp) ?_
            exact Den.leaf _
          case w3 => exact ⟨⟨.inl rfl, .inl rfl, trivial⟩, trivial⟩
          case k3 =>
            unfold ql; rw [if_neg hq]; simp only [hp, qI]
            exact hR
        | some q =>
          obtain ⟨b, n⟩ := q
          rw [pcV_some hp] at hpc
          obtain ⟨p1, p2⟩ := pc_pos hp
          have hlen := congrArg List.length h
          rw [List.length_drop, L_length] at hlen
          obtain ⟨q2, q3⟩ := quo_arith hlen p2 p1 hz hi
          have ed : (c :: r).drop n = (L s).drop (i + n) := by rw [← h, List.drop_drop]
          by_cases hA2 : A.length = 4096
          · refine Den.loopW (G := none) (σ2 := ?s4) (e := .ret) _ ⟨[(2, vS ⟨#[]⟩), (3, vI 0)], []⟩ (by simp) (by simp) wk0 ?b4 ?w4 ?k4
            case b4 =>
              refine Den.iteT (by simp; omega) ?_
              refine Den.asrt (by omega) ?_
              refine Den.iteT (by rw [hb]; simp; omega) ?_
              refine Den.asrt (by simp only [Option.getD_none, Option.getD_some]; omega) ?_
              refine Does.use hpc ?_
              refine Den.iteF (by simp; omega) ?_
              refine Den.iteT (by simp; omega) ?_
              exact Den.leaf _
            case w4 => exact ⟨⟨.inl rfl, .inl rfl, trivial⟩, trivial⟩
            case k4 =>
              unfold ql; rw [if_neg hq]; simp only [hp, ed]
              cases ql f ((L s).drop (i + n)) with
              | none => exact hR
              | some z => obtain ⟨t, m⟩ := z; simp only [qI, List.length_cons]; rw [if_neg (by omega)]; exact hR
          · refine Den.loopN (G := none) (σ2 := ?s5) _ wk0 ?b5 ?r5
            case b5 =>
              refine Den.iteT (by simp; omega) ?_
              refine Den.asrt (by omega) ?_
              refine Den.iteT (by rw [hb]; simp; omega) ?_
              refine Den.asrt (by simp only [Option.getD_none, Option.getD_some]; omega) ?_
              refine Does.use hpc ?_
              refine Den.iteF (by simp; omega) ?_
              refine Den.iteF (by simp; omega) ?_
              refine Den.asrt (by show ((A.map byteD).length + 1) * 1 ≤ 140737488355328; rw [List.length_map]; omega) ?_
              exact Den.leaf _
            case r5 =>
              have e : qI 0 A i (ql (f + 1) (c :: r)) = qI 0 (A ++ [b]) (i + n) (ql f ((L s).drop (i + n))) := by
                conv => lhs; unfold ql
                rw [if_neg hq]
                simp only [hp, ed]
                cases ql f ((L s).drop (i + n)) with
                | none => rfl
                | some z =>
                  obtain ⟨t, m⟩ := z
                  simp only [qI, List.length_append, List.length_cons, List.length_nil, List.append_assoc, List.singleton_append]
                  by_cases hh : A.length + (t.length + 1) ≤ 4096
                  · rw [if_pos hh, if_pos (by omega), Nat.add_assoc]
                  · rw [if_neg hh, if_neg (by omega)]
              rw [e]
              refine lquo_loop s hs K O hE hR f (A ++ [b]) (i + n) (len_snoc (by omega)) (drop_len q2) q3 _ rfl ?_ (.inl ?_)
              · show vI (IntKind.i64.wrap ((i : Int) + (n : Int))) = _
                rw [wrapI (by omega) (by omega)]; rfl
              · rw [List.map_append]; rfl
theorem lquoted (s : ByteArray) (hs : s.size ≤ 1048576) : Does X 117 [vS s] [] ((fun x : ByteArray × Int => Out.ret (.tuple [vS x.1, vI x.2]) []) (match L s with
    | [] => (⟨#[]⟩, 0)
    | c :: r => if c.toNat = 34 then (match quo r with | none => (⟨#[]⟩, 0) | some (t, n) => (mkB t, (n : Int))) else (⟨#[]⟩, 0))) := by
  refine Does.of Tryz.func117 (by kernel_rfl) ?_
  cases h : L s with
  | nil =>
    have hz : s = ⟨#[]⟩ := L_inj h
    refine Den.iteT (by simpa using hz) ?_
    exact Den.leaf _
  | cons c r =>
    obtain ⟨hb0, hi0⟩ := bt_drop (i := 0) (s := s) (c := c) (r := r) (by simpa using h)
    have hb0 : bt s 0 = (c.toNat : Int) := hb0
    have hr : (L s).drop 1 = r := by rw [h]; rfl
    have hne : ¬ s = ⟨#[]⟩ := fun e => by rw [e] at h; cases h
    refine Den.iteF (by simpa using hne) ?_
    refine Den.asrt (by omega) ?_
    by_cases hq : c.toNat = 34
    · refine Den.iteF (by rw [hb0]; simp; omega) ?_
      have e : (match c :: r with
          | [] => (⟨#[]⟩, 0)
          | c :: r => if c.toNat = 34 then (match quo r with | none => (⟨#[]⟩, 0) | some (t, n) => (mkB t, (n : Int))) else (⟨#[]⟩, 0)) = qI 0 [] 1 (ql (r.length + 1) ((L s).drop 1)) := by
        rw [hr]
        simp only [if_pos hq]
        unfold quo
        cases ql (r.length + 1) r with
        | none => rfl
        | some z =>
          obtain ⟨t, m⟩ := z
          simp only [qI, List.length_nil, List.nil_append, Nat.zero_add]
          by_cases ht : t.length ≤ 4096
          · simp only [if_pos ht]; rw [Nat.add_comm]
          · simp only [if_neg ht]
      rw [e]
      refine lquo_loop s hs _ (fun x : ByteArray × Int => Out.ret (.tuple [vS x.1, vI x.2]) []) ?_ ?_ (r.length + 1) [] 1 (by simp) (by rw [hr]; omega) (by omega) _ rfl rfl (.inr (.inr ⟨(42, here), 1, 1, rfl, rfl, rfl, rfl⟩))
      · intro j A' hj
        by_cases hj2 : s.size ≤ j
        · rw [if_pos hj2]
          refine Den.iteT (by simp; omega) ?_
          exact Den.leaf _
        · rw [if_neg hj2]
          refine Den.iteF (by simp; omega) ?_
          refine Den.bytes A' rfl ?_
          refine Den.leaf' ?_
          rw [wrapI (by omega) (by omega)]
          rfl
      · exact Den.leaf _
    · refine Den.iteT (by rw [hb0]; simp; omega) ?_
      refine Den.leaf' ?_
      simp [hq]
end Go.Proofs.YtaddhpeainliiaaGreatDoor.Id
/-! ## DenQuoR -/
namespace Go.Proofs.YtaddhpeainliiaaGreatDoor.Id
open Go
set_option linter.unusedVariables false
set_option linter.unusedSimpArgs false
variable {X : Given}
set_option maxHeartbeats 4000000 in
theorem rpiece (s : ByteArray) (hs : s.size ≤ 1048576) (i : Nat) (hi : i ≤ s.size) : Does X 206 [vS s, vI i] [] (pcV ((L s).drop i)) := by
  refine Does.of Tryz.func206 (by kernel_rfl) ?_
  cases h : (L s).drop i with
  | nil =>
    have h1 := drop_none h; rw [L_length] at h1
    refine Den.iteT (by simp; omega) ?_
    exact Den.leaf' (pcV_none rfl).symm
  | cons c r =>
    obtain ⟨hb0, hi0⟩ := bt_drop h
    have hlen := congrArg List.length h
    rw [List.length_drop, L_length] at hlen
    simp only [List.length_cons] at hlen
    refine Den.iteF (by simp; omega) ?_
    refine Den.asrt (by omega) ?_
    by_cases h4 : c.toNat = 92
    rotate_left
    · refine Den.iteT (by rw [hb0]; simp; omega) ?_
      by_cases h1 : c.toNat < 32
      · refine Den.iteT (by rw [hb0]; simp; omega) ?_
        refine Den.leaf' (pcV_none ?_).symm
        simp only [pc]; rw [if_neg (by omega), if_pos (Or.inl h1)]
      refine Den.iteF (by rw [hb0]; simp; omega) ?_
      by_cases h2 : 126 < c.toNat
      · refine Den.iteT (by rw [hb0]; simp; omega) ?_
        refine Den.leaf' (pcV_none ?_).symm
        simp only [pc]; rw [if_neg (by omega), if_pos (Or.inr (Or.inl h2))]
      refine Den.iteF (by rw [hb0]; simp; omega) ?_
      by_cases h3 : c.toNat = 34
      · refine Den.iteT (by rw [hb0]; simp; omega) ?_
        refine Den.leaf' (pcV_none ?_).symm
        simp only [pc]; rw [if_neg (by omega), if_pos (Or.inr (Or.inr h3))]
      refine Den.iteF (by rw [hb0]; simp; omega) ?_
      rw [pcV_some (b := c) (n := 1) (by simp only [pc]; rw [if_neg h4, if_neg (by omega)])]
      exact Den.leaf' (by rw [hb0]; rfl)
    refine Den.iteF (by rw [hb0]; simp; omega) ?_
    have w1 : IntKind.i64.wrap ((i : Int) + 1) = ((i + 1 : Nat) : Int) := by rw [wrapI (by omega) (by omega)]; rfl
    cases r with
    | nil =>
      refine Den.iteT (by rw [w1]; simp at hlen; simp; omega) ?_
      exact Den.leaf' (pcV_none (by simp [pc, h4])).symm
    | cons d r =>
      obtain ⟨hb1, hi1⟩ := bt_drop (drop_some h).2.2
      simp only [List.length_cons] at hlen
      refine Den.iteF (by rw [w1]; simp; omega) ?_
      refine Den.asrt (by rw [w1]; omega) ?_
      by_cases d1 : d.toNat = 110
      · refine Den.iteT (by rw [w1, hb1]; simp; omega) ?_
        rw [pcV_some (b := 10) (n := 2) (by simp [pc, h4, d1])]
        exact Den.leaf _
      refine Den.iteF (by rw [w1, hb1]; simp; omega) ?_
      by_cases d2 : d.toNat = 116
      · refine Den.iteT (by rw [w1, hb1]; simp; omega) ?_
        rw [pcV_some (b := 9) (n := 2) (by simp [pc, h4, d2])]
        exact Den.leaf _
      refine Den.iteF (by rw [w1, hb1]; simp; omega) ?_
      by_cases d3 : d.toNat = 34
      · refine Den.iteT (by rw [w1, hb1]; simp; omega) ?_
        refine Den.iteT (by rw [w1, hb1]; simp; omega) ?_
        refine Den.asrt (by rw [w1]; omega) ?_
        rw [pcV_some (b := d) (n := 2) (by simp [pc, h4, d3])]
        exact Den.leaf' (by rw [w1, hb1]; rfl)
      refine Den.iteF (by rw [w1, hb1]; simp; omega) ?_
      by_cases d4 : d.toNat = 92
      · refine Den.iteT (by rw [w1, hb1]; simp; omega) ?_
        refine Den.asrt (by rw [w1]; omega) ?_
        rw [pcV_some (b := d) (n := 2) (by simp [pc, h4, d4])]
        exact Den.leaf' (by rw [w1, hb1]; rfl)
      refine Den.iteF (by rw [w1, hb1]; simp; omega) ?_
      by_cases d5 : d.toNat = 120
      rotate_left
      · refine Den.iteF (by rw [w1, hb1]; simp; omega) ?_
        exact Den.leaf' (pcV_none (by simp [pc, h4, d1, d2, d3, d4, d5])).symm
      refine Den.iteT (by rw [w1, hb1]; simp; omega) ?_
      have w3 : IntKind.i64.wrap ((i : Int) + 3) = ((i + 3 : Nat) : Int) := by rw [wrapI (by omega) (by omega)]; rfl
      have w2 : IntKind.i64.wrap ((i : Int) + 2) = ((i + 2 : Nat) : Int) := by rw [wrapI (by omega) (by omega)]; rfl
      match r, h, hlen with
      | [], h, hlen =>
        refine Den.iteF (by rw [w3]; simp at hlen; simp; omega) ?_
        exact Den.leaf' (pcV_none (by simp [pc, h4, d5])).symm
      | [x1], h, hlen =>
        refine Den.iteF (by rw [w3]; simp at hlen; simp; omega) ?_
        exact Den.leaf' (pcV_none (by simp [pc, h4, d5])).symm
      | a :: b :: r, h, hlen =>
        have h2 := (drop_some (drop_some h).2.2).2.2
        obtain ⟨hb2, hi2⟩ := bt_drop h2
        obtain ⟨hb3, hi3⟩ := bt_drop (drop_some h2).2.2
        simp only [List.length_cons] at hlen
        have hb2 : bt s ((i + 2 : Nat) : Int) = (a.toNat : Int) := hb2
        have hb3 : bt s ((i + 3 : Nat) : Int) = (b.toNat : Int) := hb3
        have ha := rhalf (X := X) a
        have hb := rhalf (X := X) b
        refine Den.iteT (by rw [w3]; simp; omega) ?_
        refine Den.asrt (by rw [w2]; omega) ?_
        refine Does.use (by rw [w2, hb2]; exact ha) ?_
        cases hx : nib a with
        | none =>
          refine Den.iteF (by simp) ?_
          exact Den.leaf' (pcV_none (by simp [pc, h4, d5, hx])).symm
        | some x =>
          rw [hx] at ha
          have hx' := nib_lt hx
          refine Den.iteT (by simp; omega) ?_
          refine Den.asrt (by rw [w3]; omega) ?_
          refine Does.use (by rw [w3, hb3]; exact hb) ?_
          cases hy : nib b with
          | none =>
            refine Den.iteF (by simp) ?_
            exact Den.leaf' (pcV_none (by simp [pc, h4, d5, hx, hy])).symm
          | some y =>
            rw [hy] at hb
            have hy' := nib_lt hy
            refine Den.iteT (by simp; omega) ?_
            refine Den.asrt (by kernel_rfl) ?_
            refine Den.asrt (by rw [w2]; omega) ?_
            refine Does.use (by rw [w2, hb2]; exact ha) ?_
            refine Den.asrt (by simp) ?_
            refine Den.asrt (by rw [w3]; omega) ?_
            refine Does.use (by rw [w3, hb3]; exact hb) ?_
            refine Den.asrt (by kernel_rfl) ?_
            refine Den.leaf' ?_
            rw [pcV_some (b := UInt8.ofNat (16 * x + y)) (n := 4) (by simp [pc, h4, d5, hx, hy])]
            exact congrArg (fun z => Out.ret (V.tuple [V.d (D.int IntKind.u8 z), vI 4]) []) (bits_r ⟨x, hx'⟩ ⟨y, hy'⟩)
set_option maxHeartbeats 4000000 in
theorem rquo_loop (s : ByteArray) (hs : s.size ≤ 1048576) (K : Ex → St → T Out) (O : ByteArray × Int → Out)
    (hR : ∀ x : ByteArray × Int, Den Tryz.prog tt X (K .ret ⟨[(4, vS x.1), (5, vI x.2)], []⟩) (O x)) :
    ∀ (f : Nat) (A : List UInt8) (i : Nat), A.length ≤ i → ((L s).drop i).length < f → i ≤ s.size → ∀ σ : St, getT σ.t 0 = vS s → getT σ.t 7 = vI i → WkV σ (.own (40, here) 1 (A.map byteD)) (getT σ.t 6) →
      Den Tryz.prog tt X (.loop (lp Tryz.f192 0) σ K) (O (qI (-1) A i (ql f ((L s).drop i))))
  | 0, A, i, hA, hl, hi, σ, g0, g5, g4 => by omega
  | f + 1, A, i, hA, hl, hi, σ, g0, g5, g4 => by
    have hz : s.size - i < f + 1 := by rw [List.length_drop, L_length] at hl; exact hl
    clear hl
    have wk0 : Wk ⟨[(0, vS s), (7, vI i), (6, .own (40, here) 1 (A.map byteD))], []⟩ σ := ⟨⟨.inl g0.symm, .inl g5.symm, g4, trivial⟩, trivial⟩
    have hpc := rpiece (X := X) s hs i hi
    cases h : (L s).drop i with
    | nil =>
      have h1 := drop_none h; rw [L_length] at h1
      rw [h, pcV_none rfl] at hpc
      refine Den.loopW (G := none) (σ2 := ?s1) (e := .ret) _ ⟨[(4, vS ⟨#[]⟩), (5, vI (-1))], []⟩ (by simp) (by simp) wk0 ?b1 ?w1 ?k1
      case b1 =>
        refine Den.iteF (by simp; omega) ?_
        refine Does.use hpc ?_
        refine Den.iteT (by simp) ?_
        exact Den.leaf _
      case w1 => exact ⟨⟨.inl rfl, .inl rfl, trivial⟩, trivial⟩
      case k1 => simpa [ql, qI] using hR (⟨#[]⟩, -1)
    | cons c r =>
      obtain ⟨hb, hi'⟩ := bt_drop h
      by_cases hq : c.toNat = 34
      · by_cases hA2 : A.length ≤ 4096
        · refine Den.loopW (G := none) (σ2 := ?s2) (e := .ret) _ ⟨[(4, vS (mkB A)), (5, vI ((i + 1 : Nat) : Int))], []⟩ (by simp) (by simp) wk0 ?b2 ?w2 ?k2
          case b2 =>
            refine Den.iteT (by simp; omega) ?_
            refine Den.asrt (by omega) ?_
            refine Den.iteT (by rw [hb]; simp; omega) ?_
            refine Den.iteF (by simp; omega) ?_
            refine Den.bytes A rfl ?_
            exact Den.leaf _
          case w2 => exact ⟨⟨.inl rfl, .inl (by show _ = vI (IntKind.i64.wrap ((i : Int) + 1)); rw [wrapI (by omega) (by omega)]; rfl), trivial⟩, trivial⟩
          case k2 =>
            have := hR (mkB A, ((i + 1 : Nat) : Int))
            simp only [ql, hq, if_true, qI, List.append_nil, List.length_nil]
            rw [if_pos (by omega)]
            exact this
        · refine Den.loopW (G := none) (σ2 := ?s3) (e := .ret) _ ⟨[(4, vS ⟨#[]⟩), (5, vI (-1))], []⟩ (by simp) (by simp) wk0 ?b3 ?w3 ?k3
          case b3 =>
            refine Den.iteT (by simp; omega) ?_
            refine Den.asrt (by omega) ?_
            refine Den.iteT (by rw [hb]; simp; omega) ?_
            refine Den.iteT (by simp; omega) ?_
            exact Den.leaf _
          case w3 => exact ⟨⟨.inl rfl, .inl rfl, trivial⟩, trivial⟩
          case k3 =>
            simp only [ql, hq, if_true, qI, List.append_nil, List.length_nil]
            rw [if_neg (by omega)]
            exact hR (⟨#[]⟩, -1)
      · rw [h] at hpc
        cases hp : pc (c :: r) with
        | none =>
          rw [pcV_none hp] at hpc
          refine Den.loopW (G := none) (σ2 := ?s4) (e := .ret) _ ⟨[(4, vS ⟨#[]⟩), (5, vI (-1))], []⟩ (by simp) (by simp) wk0 ?b4 ?w4 ?k4
          case b4 =>
            refine Den.iteT (by simp; omega) ?_
            refine Den.asrt (by omega) ?_
            refine Den.iteF (by rw [hb]; simp; omega) ?_
            refine Does.use hpc ?_
            refine Den.iteT (by simp) ?_
            exact Den.leaf _
          case w4 => exact ⟨⟨.inl rfl, .inl rfl, trivial⟩, trivial⟩
          case k4 =>
            unfold ql; rw [if_neg hq]; simp only [hp, qI]
            exact hR (⟨#[]⟩, -1)
        | some q =>
          obtain ⟨b, n⟩ := q
          rw [pcV_some hp] at hpc
          obtain ⟨p1, p2⟩ := pc_pos hp
          have hlen := congrArg List.length h
          rw [List.length_drop, L_length] at hlen
          obtain ⟨q2, q3⟩ := quo_arith hlen p2 p1 hz hi
          have ed : (c :: r).drop n = (L s).drop (i + n) := by rw [← h, List.drop_drop]
          refine Den.loopN (G := none) (σ2 := ?s5) _ wk0 ?b5 ?r5
          case b5 =>
            refine Den.iteT (by simp; omega) ?_
            refine Den.asrt (by omega) ?_
            refine Den.iteF (by rw [hb]; simp; omega) ?_
            refine Does.use hpc ?_
            refine Den.iteF (by simp; omega) ?_
            refine Den.asrt (by show ((A.map byteD).length + 1) * 1 ≤ 140737488355328; rw [List.length_map]; omega) ?_
            exact Den.leaf _
          case r5 =>
            have e : qI (-1) A i (ql (f + 1) (c :: r)) = qI (-1) (A ++ [b]) (i + n) (ql f ((L s).drop (i + n))) := by
              conv => lhs; unfold ql
              rw [if_neg hq]
              simp only [hp, ed]
              cases ql f ((L s).drop (i + n)) with
              | none => rfl
              | some z =>
                obtain ⟨t, m⟩ := z
                simp only [qI, List.length_append, List.length_cons, List.length_nil, List.append_assoc, List.singleton_append]
                by_cases hh : A.length + (t.length + 1) ≤ 4096
                · rw [if_pos hh, if_pos (by omega), Nat.add_assoc]
                · rw [if_neg hh, if_neg (by omega)]
            rw [e]
            refine rquo_loop s hs K O hR f (A ++ [b]) (i + n) (len_snoc (by omega)) (drop_len q2) q3 _ rfl ?_ (.inl ?_)
            · show vI (IntKind.i64.wrap ((i : Int) + (n : Int))) = _
              rw [wrapI (by omega) (by omega)]; rfl
            · rw [List.map_append]; rfl
theorem rquoted (s : ByteArray) (hs : s.size ≤ 1048576) (i : Nat) (c : UInt8) (r : List UInt8) (h : (L s).drop i = c :: r) : Does X 192 [vS s, vI i] [] ((fun x : ByteArray × Int => Out.ret (.tuple [vS x.1, vI x.2]) []) (match quo r with | none => (⟨#[]⟩, -1) | some (t, n) => (mkB t, ((i + n : Nat) : Int)))) := by
  refine Does.of Tryz.func192 (by kernel_rfl) ?_
  obtain ⟨hb0, hi0⟩ := bt_drop h
  have hr := (drop_some h).2.2
  have e : (match quo r with | none => ((⟨#[]⟩ : ByteArray), (-1 : Int)) | some (t, n) => (mkB t, ((i + n : Nat) : Int))) = qI (-1) [] (i + 1) (ql (r.length + 1) ((L s).drop (i + 1))) := by
    rw [hr]
    unfold quo
    cases ql (r.length + 1) r with
    | none => rfl
    | some z =>
      obtain ⟨t, m⟩ := z
      simp only [qI, List.length_nil, List.nil_append, Nat.zero_add]
      by_cases ht : t.length ≤ 4096
      · simp only [if_pos ht]; congr 2; omega
      · simp only [if_neg ht]
  rw [e]
  refine rquo_loop s hs _ (fun x : ByteArray × Int => Out.ret (.tuple [vS x.1, vI x.2]) []) (fun x => Den.leaf _) (r.length + 1) [] (i + 1) (by simp) (by rw [hr]; omega) (by omega) _ rfl ?_ (.inr (.inr ⟨(40, here), 1, 1, rfl, rfl, rfl, rfl⟩))
  show vI (IntKind.i64.wrap ((i : Int) + 1)) = _
  rw [wrapI (by omega) (by omega)]; rfl
end Go.Proofs.YtaddhpeainliiaaGreatDoor.Id
/-! ## DenGapR -/
namespace Go.Proofs.YtaddhpeainliiaaGreatDoor.Id
open Go
set_option linter.unusedVariables false
set_option linter.unusedSimpArgs false
variable {X : Given}
theorem rcom_loop {α : Type} (s : ByteArray) (hs : s.size ≤ 1048576) (K : Ex → St → T α) (o : α) : ∀ (r : List UInt8) (i : Nat), (L s).drop i = r →
    Den Tryz.prog tt X (K (.exit 3) ⟨[(1, vI ((i + (r.takeWhile (fun c => !isNl c)).length : Nat) : Int)), (0, vS s)], []⟩) o → ∀ σ : St, getT σ.t 0 = vS s → getT σ.t 1 = vI i → Den Tryz.prog tt X (.loop (lp Tryz.f164 1) σ K) o
  | [], i, h, hK, σ, g0, g1 => by
    have h1 := drop_none h; rw [L_length] at h1
    refine Den.loopW (G := none) (σ2 := ?s1) (e := .exit 3) ⟨[(1, vI i), (0, vS s)], []⟩ ⟨[(1, vI i), (0, vS s)], []⟩ (by simp) (by simp) ⟨⟨.inl g1.symm, .inl g0.symm, trivial⟩, trivial⟩ ?b1 ?w1 ?k1
    case b1 =>
      refine Den.iteF (by simp; omega) ?_
      exact Den.leaf _
    case w1 => exact ⟨⟨.inl rfl, .inl rfl, trivial⟩, trivial⟩
    case k1 => simpa using hK
  | c :: r, i, h, hK, σ, g0, g1 => by
    obtain ⟨hb, hi⟩ := bt_drop h
    have hn : isNl c = true ↔ c.toNat = 10 := by unfold isNl; simp
    by_cases hc : c.toNat = 10
    · refine Den.loopW (G := none) (σ2 := ?s2) (e := .exit 3) ⟨[(1, vI i), (0, vS s)], []⟩ ⟨[(1, vI i), (0, vS s)], []⟩ (by simp) (by simp) ⟨⟨.inl g1.symm, .inl g0.symm, trivial⟩, trivial⟩ ?b2 ?w2 ?k2
      case b2 =>
        refine Den.iteT (by simp; omega) ?_
        refine Den.asrt (by omega) ?_
        refine Den.iteF (by rw [hb]; simp; omega) ?_
        exact Den.leaf _
      case w2 => exact ⟨⟨.inl rfl, .inl rfl, trivial⟩, trivial⟩
      case k2 =>
        rw [List.takeWhile_cons, hn.2 hc] at hK
        simpa using hK
    · have hn' : isNl c = false := by rw [← Bool.not_eq_true]; exact fun x => hc (hn.1 x)
      refine Den.loopN (G := none) (σ2 := ?s3) ⟨[(1, vI i), (0, vS s)], []⟩ ⟨⟨.inl g1.symm, .inl g0.symm, trivial⟩, trivial⟩ ?b3 ?r3
      case b3 =>
        refine Den.iteT (by simp; omega) ?_
        refine Den.asrt (by omega) ?_
        refine Den.iteT (by rw [hb]; simp; omega) ?_
        exact Den.leaf _
      case r3 =>
        refine rcom_loop s hs K o r (i + 1) (drop_some h).2.2 ?_ _ rfl ?_
        · rw [List.takeWhile_cons, hn'] at hK
          simp only [Bool.not_false, if_true, List.length_cons] at hK
          rwa [show i + 1 + (r.takeWhile (fun c => !isNl c)).length = i + ((r.takeWhile (fun c => !isNl c)).length + 1) by omega]
        · show vI (IntKind.i64.wrap ((i : Int) + 1)) = _
          rw [wrapI (by omega) (by omega)]; rfl
theorem isSp_iff (c : UInt8) : isSp c = true ↔ c.toNat = 32 ∨ c.toNat = 9 ∨ c.toNat = 10 ∨ c.toNat = 13 := by
  unfold isSp; simp only [Bool.or_eq_true, decide_eq_true_eq]; omega
set_option maxHeartbeats 4000000 in
theorem rgap_loop (s : ByteArray) (hs : s.size ≤ 1048576) (K : Ex → St → T Out) (o : Out) : ∀ (n i : Nat), s.size - i ≤ n →
    Den Tryz.prog tt X (K (.exit 0) ⟨[(1, vI ((i + gapL false ((L s).drop i) : Nat) : Int))], []⟩) o → Den Tryz.prog tt X (K .ret ⟨[(4, vI ((i + gapL false ((L s).drop i) : Nat) : Int))], []⟩) o → i ≤ s.size →
    ∀ σ : St, getT σ.t 0 = vS s → getT σ.t 1 = vI i → Den Tryz.prog tt X (.loop (lp Tryz.f164 0) σ K) o := by
  intro n
  induction n with
  | zero =>
    intro i h0 hE hR hi σ g0 g1
    refine Den.loopW (G := none) (σ2 := ?s4) (e := .exit 0) ⟨[(1, vI i), (0, vS s)], []⟩ ⟨[(1, vI i)], []⟩ (by simp) (by simp) ⟨⟨.inl g1.symm, .inl g0.symm, trivial⟩, trivial⟩ ?b4 ?w4 ?k4
    case b4 =>
      refine Den.iteF (by simp; omega) ?_
      exact Den.leaf _
    case w4 => exact ⟨⟨.inl rfl, trivial⟩, trivial⟩
    case k4 =>
      rw [List.drop_eq_nil_of_le (by rw [L_length]; omega)] at hE
      simpa [gapL] using hE
  | succ n ih =>
    intro i h0 hE hR hi0 σ g0 g1
    have wk0 : Wk ⟨[(1, vI i), (0, vS s)], []⟩ σ := ⟨⟨.inl g1.symm, .inl g0.symm, trivial⟩, trivial⟩
    cases h : (L s).drop i with
    | nil =>
      have h2 := drop_none h
      rw [L_length] at h2
      refine Den.loopW (G := none) (σ2 := ?s5) (e := .exit 0) _ ⟨[(1, vI i)], []⟩ (by simp) (by simp) wk0 ?b5 ?w5 ?k5
      case b5 =>
        refine Den.iteF (by simp; omega) ?_
        exact Den.leaf _
      case w5 => exact ⟨⟨.inl rfl, trivial⟩, trivial⟩
      case k5 =>
        rw [h] at hE
        simpa [gapL] using hE
    | cons c r =>
      obtain ⟨hb, hi⟩ := bt_drop h
      have w1 : IntKind.i64.wrap ((i : Int) + 1) = ((i + 1 : Nat) : Int) := by rw [wrapI (by omega) (by omega)]; rfl
      have hsp := isSp_iff c
      have hnext : isSp c = true → i + gapL false ((L s).drop i) = i + 1 + gapL false ((L s).drop (i + 1)) := fun hc => by
        rw [h, (drop_some h).2.2]; simp only [gapL, hc, if_true]; omega
      by_cases c1 : c.toNat = 32
      · have e := hnext (hsp.2 (.inl c1))
        rw [e] at hE hR
        refine Den.loopN (G := none) (σ2 := ?s6) _ wk0 ?b6 ?r6
        case b6 =>
          refine Den.iteT (by simp; omega) ?_
          refine Den.asrt (by omega) ?_
          refine Den.iteT (by rw [hb]; simp; omega) ?_
          exact Den.leaf _
        case r6 => exact ih (i + 1) (by omega) hE hR (by omega) _ rfl (congrArg vI w1)
      by_cases c2 : c.toNat = 9
      · have e := hnext (hsp.2 (.inr (.inl c2)))
        rw [e] at hE hR
        refine Den.loopN (G := none) (σ2 := ?s7) _ wk0 ?b7 ?r7
        case b7 =>
          refine Den.iteT (by simp; omega) ?_
          refine Den.asrt (by omega) ?_
          refine Den.iteF (by rw [hb]; simp; omega) ?_
          refine Den.iteT (by rw [hb]; simp; omega) ?_
          exact Den.leaf _
        case r7 => exact ih (i + 1) (by omega) hE hR (by omega) _ rfl (congrArg vI w1)
      by_cases c3 : c.toNat = 10
      · have e := hnext (hsp.2 (.inr (.inr (.inl c3))))
        rw [e] at hE hR
        refine Den.loopN (G := none) (σ2 := ?s8) _ wk0 ?b8 ?r8
        case b8 =>
          refine Den.iteT (by simp; omega) ?_
          refine Den.asrt (by omega) ?_
          refine Den.iteF (by rw [hb]; simp; omega) ?_
          refine Den.iteF (by rw [hb]; simp; omega) ?_
          refine Den.iteT (by rw [hb]; simp; omega) ?_
          exact Den.leaf _
        case r8 => exact ih (i + 1) (by omega) hE hR (by omega) _ rfl (congrArg vI w1)
      by_cases c4 : c.toNat = 13
      · have e := hnext (hsp.2 (.inr (.inr (.inr c4))))
        rw [e] at hE hR
        refine Den.loopN (G := none) (σ2 := ?s9) _ wk0 ?b9 ?r9
        case b9 =>
          refine Den.iteT (by simp; omega) ?_
          refine Den.asrt (by omega) ?_
          refine Den.iteF (by rw [hb]; simp; omega) ?_
          refine Den.iteF (by rw [hb]; simp; omega) ?_
          refine Den.iteF (by rw [hb]; simp; omega) ?_
          refine Den.iteT (by rw [hb]; simp; omega) ?_
          exact Den.leaf _
        case r9 => exact ih (i + 1) (by omega) hE hR (by omega) _ rfl (congrArg vI w1)
      have hc : ¬ isSp c = true := fun x => by have := hsp.1 x; omega
      by_cases hd : (isSl c && headSl r) = true
      · have hnl : isNl c = false := by simp only [Bool.and_eq_true] at hd; unfold isSl at hd; unfold isNl; simp at hd; simp [hd.1]
        have h47 : c.toNat = 47 := by simp only [Bool.and_eq_true] at hd; unfold isSl at hd; simpa using hd.1
        cases r with
        | nil => simp [headSl] at hd
        | cons d r =>
          obtain ⟨hb1, hi1⟩ := bt_drop (drop_some h).2.2
          have d47 : d.toNat = 47 := by simp only [Bool.and_eq_true, headSl] at hd; unfold isSl at hd; simpa using hd.2
          have hle : (((L s).drop i).takeWhile (fun c => !isNl c)).length ≤ s.size - i := by
            have := List.takeWhile_sublist (p := fun c => !isNl c) (l := (L s).drop i) |>.length_le
            rw [List.length_drop, L_length] at this; exact this
          have hpos : 1 ≤ (((L s).drop i).takeWhile (fun c => !isNl c)).length := by
            rw [h, List.takeWhile_cons, hnl]; simp
          have e : i + gapL false ((L s).drop i) = i + (((L s).drop i).takeWhile (fun c => !isNl c)).length + gapL false ((L s).drop (i + (((L s).drop i).takeWhile (fun c => !isNl c)).length)) := by
            have g1 : gapL false ((L s).drop i) = gapL true ((L s).drop i) := by
              rw [h]; simp only [gapL, hc, hd, hnl, if_true, if_false, Bool.false_eq_true]
            rw [g1, gapL_true_take, List.drop_drop]; omega
          rw [e] at hE hR
          refine Den.loopN (G := none) (σ2 := ?s10) _ wk0 ?b10 ?r10
          case b10 =>
            refine Den.iteT (by simp; omega) ?_
            refine Den.asrt (by omega) ?_
            refine Den.iteF (by rw [hb]; simp; omega) ?_
            refine Den.iteF (by rw [hb]; simp; omega) ?_
            refine Den.iteF (by rw [hb]; simp; omega) ?_
            refine Den.iteF (by rw [hb]; simp; omega) ?_
            refine Den.iteT (by rw [hb]; simp; omega) ?_
            refine Den.iteT (by rw [w1]; simp; omega) ?_
            refine Den.asrt (by rw [w1]; omega) ?_
            refine Den.iteT (by rw [w1, hb1]; simp; omega) ?_
            refine rcom_loop s hs _ _ _ i rfl ?_ _ rfl rfl
            exact Den.leaf _
          case r10 => exact ih _ (by omega) hE hR (by omega) _ rfl rfl
      · have e : gapL false ((L s).drop i) = 0 := by rw [h]; simp only [gapL, hc, hd, if_false, Bool.false_eq_true]
        rw [e] at hE hR
        by_cases h47 : c.toNat = 47
        rotate_left
        · refine Den.loopW (G := none) (σ2 := ?s11) (e := .ret) _ ⟨[(4, vI i)], []⟩ (by simp) (by simp) wk0 ?b11 ?w11 ?k11
          case b11 =>
            refine Den.iteT (by simp; omega) ?_
            refine Den.asrt (by omega) ?_
            refine Den.iteF (by rw [hb]; simp; omega) ?_
            refine Den.iteF (by rw [hb]; simp; omega) ?_
            refine Den.iteF (by rw [hb]; simp; omega) ?_
            refine Den.iteF (by rw [hb]; simp; omega) ?_
            refine Den.iteF (by rw [hb]; simp; omega) ?_
            exact Den.leaf _
          case w11 => exact ⟨⟨.inl rfl, trivial⟩, trivial⟩
          case k11 => simpa using hR
        cases r with
        | nil =>
          have := drop_none (drop_some h).2.2; rw [L_length] at this
          · refine Den.loopW (G := none) (σ2 := ?s12) (e := .ret) _ ⟨[(4, vI i)], []⟩ (by simp) (by simp) wk0 ?b12 ?w12 ?k12
            case b12 =>
              refine Den.iteT (by simp; omega) ?_
              refine Den.asrt (by omega) ?_
              refine Den.iteF (by rw [hb]; simp; omega) ?_
              refine Den.iteF (by rw [hb]; simp; omega) ?_
              refine Den.iteF (by rw [hb]; simp; omega) ?_
              refine Den.iteF (by rw [hb]; simp; omega) ?_
              refine Den.iteT (by rw [hb]; simp; omega) ?_
              refine Den.iteF (by rw [w1]; simp; omega) ?_
              exact Den.leaf _
            case w12 => exact ⟨⟨.inl rfl, trivial⟩, trivial⟩
            case k12 => simpa using hR
        | cons d r =>
          obtain ⟨hb1, hi1⟩ := bt_drop (drop_some h).2.2
          have d47 : ¬ d.toNat = 47 := fun x => hd (by simp [isSl, headSl, h47, x])
          · refine Den.loopW (G := none) (σ2 := ?s13) (e := .ret) _ ⟨[(4, vI i)], []⟩ (by simp) (by simp) wk0 ?b13 ?w13 ?k13
            case b13 =>
              refine Den.iteT (by simp; omega) ?_
              refine Den.asrt (by omega) ?_
              refine Den.iteF (by rw [hb]; simp; omega) ?_
              refine Den.iteF (by rw [hb]; simp; omega) ?_
              refine Den.iteF (by rw [hb]; simp; omega) ?_
              refine Den.iteF (by rw [hb]; simp; omega) ?_
              refine Den.iteT (by rw [hb]; simp; omega) ?_
              refine Den.iteT (by rw [w1]; simp; omega) ?_
              refine Den.asrt (by rw [w1]; omega) ?_
              refine Den.iteF (by rw [w1, hb1]; simp; omega) ?_
              exact Den.leaf _
            case w13 => exact ⟨⟨.inl rfl, trivial⟩, trivial⟩
            case k13 => simpa using hR
theorem rgap (s : ByteArray) (hs : s.size ≤ 1048576) (i : Nat) (hi : i ≤ s.size) : Does X 164 [vS s, vI i] [] (.ret (vI ((i + gapL false ((L s).drop i) : Nat) : Int)) []) := by
  refine Does.of Tryz.func164 (by kernel_rfl) ?_
  exact rgap_loop s hs _ _ s.size i (by omega) (Den.leaf _) (Den.leaf _) hi _ rfl rfl
end Go.Proofs.YtaddhpeainliiaaGreatDoor.Id
/-! ## DenKey -/
namespace Go.Proofs.YtaddhpeainliiaaGreatDoor.Id
open Go
set_option linter.unusedVariables false
set_option linter.unusedSimpArgs false
variable {X : Given}
def rowS (l : List ByteArray) : List (List D) := l.map fun x => [D.str x]
theorem rowS_get {l : List ByteArray} {i : Nat} {x : ByteArray} {r : List ByteArray} (h : l.drop i = x :: r) : (rowS l)[((i : Int)).toNat]? = some [D.str x] := by
  have hi := (drop_some h).1
  have h2 := (drop_some h).2.1 x
  rw [List.getD_eq_getElem?_getD, List.getElem?_eq_getElem hi] at h2
  simp at h2
  unfold rowS
  rw [show ((i : Int)).toNat = i by omega, List.getElem?_map, List.getElem?_eq_getElem hi, h2]
  rfl
theorem among_loop (l : List ByteArray) (hl : l.length ≤ 1048576) (a : ByteArray) (K : Ex → St → T Out) (o : Bool → Out) (hE : Den Tryz.prog tt X (K (.exit 0) ⟨[], []⟩) (o false)) (hR : Den Tryz.prog tt X (K .ret ⟨[(4, .lit true)], []⟩) (o true)) :
    ∀ (r : List ByteArray) (i : Nat), l.drop i = r → ∀ σ : St, getT σ.t 0 = .d (.sl 1 (rowS l)) → getT σ.t 1 = vS a → getT σ.t 5 = vI i → Den Tryz.prog tt X (.loop (lp Tryz.f150 0) σ K) (o (r.any fun x => decide (x = a)))
  | [], i, h, σ, g0, g1, g5 => by
    have h1 := drop_none h
    refine Den.loopW (G := none) (σ2 := ?s1) (e := .exit 0) ⟨[(0, .d (.sl 1 (rowS l))), (1, vS a), (5, vI i)], []⟩ ⟨[], []⟩ (by simp) (by simp) ⟨⟨.inl g0.symm, .inl g1.symm, .inl g5.symm, trivial⟩, trivial⟩ ?b1 ?w1 ?k1
    case b1 =>
      refine Den.iteF (by simp [rowS]; omega) ?_
      exact Den.leaf _
    case w1 => exact ⟨trivial, trivial⟩
    case k1 => exact hE
  | x :: r, i, h, σ, g0, g1, g5 => by
    have hi := (drop_some h).1
    by_cases hx : x = a
    · refine Den.loopW (G := none) (σ2 := ?s2) (e := .ret) ⟨[(0, .d (.sl 1 (rowS l))), (1, vS a), (5, vI i)], []⟩ ⟨[(4, .lit true)], []⟩ (by simp) (by simp) ⟨⟨.inl g0.symm, .inl g1.symm, .inl g5.symm, trivial⟩, trivial⟩ ?b2 ?w2 ?k2
      case b2 =>
        refine Den.iteT (by simp [rowS]; omega) ?_
        refine Den.idx _ (by omega) (rowS_get h) ?_
        refine Den.iteT (by simpa using hx) ?_
        exact Den.leaf _
      case w2 => exact ⟨⟨.inl rfl, trivial⟩, trivial⟩
      case k2 =>
        rw [List.any_cons, decide_eq_true hx]; exact hR
    · refine Den.loopN (G := none) (σ2 := ?s3) ⟨[(0, .d (.sl 1 (rowS l))), (1, vS a), (5, vI i)], []⟩ ⟨⟨.inl g0.symm, .inl g1.symm, .inl g5.symm, trivial⟩, trivial⟩ ?b3 ?r3
      case b3 =>
        refine Den.iteT (by simp [rowS]; omega) ?_
        refine Den.idx _ (by omega) (rowS_get h) ?_
        refine Den.iteF (by simpa using hx) ?_
        exact Den.leaf _
      case r3 =>
        rw [List.any_cons, decide_eq_false hx, Bool.false_or]
        refine among_loop l hl a K o hE hR r (i + 1) (drop_some h).2.2 _ rfl rfl ?_
        show vI (IntKind.i64.wrap ((i : Int) + 1)) = _
        rw [wrapI (by omega) (by omega)]; rfl
theorem ramong (l : List ByteArray) (hl : l.length ≤ 1048576) (a : ByteArray) : Does X 150 [.d (.sl 1 (rowS l)), vS a] [] (.ret (vB (l.any fun x => decide (x = a))) []) := by
  refine Does.of Tryz.func150 (by kernel_rfl) ?_
  refine among_loop l hl a _ (fun b => .ret (vB b) []) ?_ ?_ l 0 rfl _ rfl rfl rfl
  · exact Den.leaf _
  · exact Den.leaf _
def keyTexts : List (List UInt8) := [[105, 110, 99, 108, 117, 100, 101], [97, 115], [101, 120, 112, 111, 114, 116], [99, 111, 110, 115, 116], [102, 117, 110, 99], [118, 97, 114], [105, 102], [101, 108, 115, 101], [119, 104, 105, 108, 101], [114, 101, 116, 117, 114, 110], [112, 114, 105, 110, 116], [116, 114, 117, 101], [102, 97, 108, 115, 101], [105, 110, 116], [98, 111, 111, 108], [116, 101, 120, 116]]
def twoSigns : List (List UInt8) := [[61, 61], [33, 61], [60, 61], [62, 61], [43, 43], [38, 38], [124, 124]]
def oneSigns : List UInt8 := [40, 41, 123, 125, 44, 59, 58, 46, 61, 60, 62, 43, 45, 42, 47, 37, 33, 35]
theorem any_mem (l : List (List UInt8)) (a : ByteArray) : ((l.map mkB).any fun x => decide (x = a)) = decide (L a ∈ l) := by
  rw [Bool.eq_iff_iff]
  simp only [List.any_eq_true, List.mem_map, decide_eq_true_eq]
  constructor
  · rintro ⟨x, ⟨y, hy, rfl⟩, rfl⟩; rw [L_mkB]; exact hy
  · intro h; exact ⟨_, ⟨_, h, rfl⟩, mkB_L a⟩
theorem rkeys : Does X 151 [] [] (.ret (.d (.sl 1 (rowS (keyTexts.map mkB)))) []) := by
  refine Does.of Tryz.func151 (by kernel_rfl) ?_
  exact Den.leaf' rfl
theorem rkey (a : ByteArray) : Does X 110 [vS a] [] (.ret (vB (decide (L a ∈ keyTexts))) []) := by
  refine Does.of Tryz.func110 (by kernel_rfl) ?_
  refine Does.use rkeys ?_
  refine Does.use (ramong _ (by simp [keyTexts]) a) ?_
  rw [any_mem]
  exact Den.leaf _
/-- cells of an array of texts -/
def cellS (l : List ByteArray) : List D := l.map D.str
theorem cellS_get {l : List ByteArray} {i : Nat} {x : ByteArray} {r : List ByteArray} (h : l.drop i = x :: r) : ((cellS l).map fun x => [x])[((i : Int)).toNat]? = some [D.str x] := by
  have := rowS_get h
  unfold rowS at this
  unfold cellS
  rw [List.map_map]; exact this
def keysB : List ByteArray := keyTexts.map mkB
theorem lkey_loop (a : ByteArray) (K : Ex → St → T Out) (o : Bool → Out) (hE : Den Tryz.prog tt X (K (.exit 0) ⟨[], []⟩) (o false)) (hR : Den Tryz.prog tt X (K .ret ⟨[(2, .lit true)], []⟩) (o true)) :
    ∀ (r : List ByteArray) (i : Nat), keysB.drop i = r → i ≤ 16 → ∀ σ : St, getT σ.t 0 = vS a → getT σ.t 7 = .agg (cellS keysB) → getT σ.t 8 = vI i → Den Tryz.prog tt X (.loop (lp Tryz.f141 0) σ K) (o (r.any fun x => decide (x = a)))
  | [], i, h, hi, σ, g0, g7, g8 => by
    have h1 : 16 ≤ i := drop_none h
    refine Den.loopW (G := none) (σ2 := ?s4) (e := .exit 0) ⟨[(0, vS a), (7, .agg (cellS keysB)), (8, vI i)], []⟩ ⟨[], []⟩ (by simp) (by simp) ⟨⟨.inl g0.symm, .inl g7.symm, .inl g8.symm, trivial⟩, trivial⟩ ?b4 ?w4 ?k4
    case b4 =>
      refine Den.iteF (by simp; omega) ?_
      exact Den.leaf _
    case w4 => exact ⟨trivial, trivial⟩
    case k4 => exact hE
  | x :: r, i, h, hi0, σ, g0, g7, g8 => by
    have hi : i < 16 := (drop_some h).1
    by_cases hx : x = a
    · refine Den.loopW (G := none) (σ2 := ?s5) (e := .ret) ⟨[(0, vS a), (7, .agg (cellS keysB)), (8, vI i)], []⟩ ⟨[(2, .lit true)], []⟩ (by simp) (by simp) ⟨⟨.inl g0.symm, .inl g7.symm, .inl g8.symm, trivial⟩, trivial⟩ ?b5 ?w5 ?k5
      case b5 =>
        refine Den.iteT (by simp; omega) ?_
        refine Den.idx _ (by omega) (cellS_get h) ?_
        refine Den.iteT (by simpa using hx.symm) ?_
        exact Den.leaf _
      case w5 => exact ⟨⟨.inl rfl, trivial⟩, trivial⟩
      case k5 =>
        rw [List.any_cons, decide_eq_true hx]; exact hR
    · refine Den.loopN (G := none) (σ2 := ?s6) ⟨[(0, vS a), (7, .agg (cellS keysB)), (8, vI i)], []⟩ ⟨⟨.inl g0.symm, .inl g7.symm, .inl g8.symm, trivial⟩, trivial⟩ ?b6 ?r6
      case b6 =>
        refine Den.iteT (by simp; omega) ?_
        refine Den.idx _ (by omega) (cellS_get h) ?_
        refine Den.iteF (by simpa using fun e : a = x => hx e.symm) ?_
        exact Den.leaf _
      case r6 =>
        rw [List.any_cons, decide_eq_false hx, Bool.false_or]
        refine lkey_loop a K o hE hR r (i + 1) (drop_some h).2.2 (by omega) _ rfl rfl ?_
        show vI (IntKind.i64.wrap ((i : Int) + 1)) = _
        rw [wrapI (by omega) (by omega)]; rfl
theorem lkey (a : ByteArray) : Does X 141 [vS a] [] (.ret (vB (decide (L a ∈ keyTexts))) []) := by
  refine Does.of Tryz.func141 (by kernel_rfl) ?_
  rw [← any_mem]
  refine lkey_loop a _ (fun b => .ret (vB b) []) ?_ ?_ keysB 0 rfl (by omega) _ rfl rfl rfl
  · exact Den.leaf _
  · exact Den.leaf _
end Go.Proofs.YtaddhpeainliiaaGreatDoor.Id
/-! ## DenSign -/
namespace Go.Proofs.YtaddhpeainliiaaGreatDoor.Id
open Go
set_option linter.unusedVariables false
set_option linter.unusedSimpArgs false
variable {X : Given}
theorem byte_all' {p : UInt8 → Bool} (h : (List.range 256).all (fun n => p (UInt8.ofNat n)) = true) (c : UInt8) : p c = true := by
  have := (List.all_eq_true.mp h) c.toNat (List.mem_range.mpr c.toNat_lt)
  simpa using this
def sgn (l : List UInt8) : Nat := if l.take 2 ∈ twoSigns then 2 else match l with | [] => 0 | c :: _ => if c ∈ oneSigns then 1 else 0
theorem two_len (t : List UInt8) (h : t ∈ twoSigns) : t.length = 2 := by
  unfold twoSigns at h; simp at h; rcases h with rfl | rfl | rfl | rfl | rfl | rfl | rfl <;> rfl
def twoB : List ByteArray := twoSigns.map mkB
theorem lsign_loop (s : ByteArray) (K : Ex → St → T Out) (o : Bool → Out) (hE : Den Tryz.prog tt X (K (.exit 0) ⟨[(0, vS s)], []⟩) (o false)) (hR : Den Tryz.prog tt X (K .ret ⟨[(2, vI 2)], []⟩) (o true)) :
    ∀ (r : List ByteArray) (i : Nat), twoB.drop i = r → i ≤ 7 → ∀ σ : St, getT σ.t 0 = vS s → getT σ.t 7 = .agg (cellS twoB) → getT σ.t 8 = vI i → Den Tryz.prog tt X (.loop (lp Tryz.f143 0) σ K) (o (r.any fun x => decide (L x <+: L s)))
  | [], i, h, hi, σ, g0, g7, g8 => by
    have h1 : 7 ≤ i := drop_none h
    refine Den.loopW (G := none) (σ2 := ?s1) (e := .exit 0) ⟨[(0, vS s), (7, .agg (cellS twoB)), (8, vI i)], []⟩ ⟨[(0, vS s)], []⟩ (by simp) (by simp) ⟨⟨.inl g0.symm, .inl g7.symm, .inl g8.symm, trivial⟩, trivial⟩ ?b1 ?w1 ?k1
    case b1 =>
      refine Den.iteF (by simp; omega) ?_
      exact Den.leaf _
    case w1 => exact ⟨⟨.inl rfl, trivial⟩, trivial⟩
    case k1 => exact hE
  | x :: r, i, h, hi0, σ, g0, g7, g8 => by
    have hi : i < 7 := (drop_some h).1
    by_cases hx : L x <+: L s
    · refine Den.loopW (G := none) (σ2 := ?s2) (e := .ret) ⟨[(0, vS s), (7, .agg (cellS twoB)), (8, vI i)], []⟩ ⟨[(2, vI 2)], []⟩ (by simp) (by simp) ⟨⟨.inl g0.symm, .inl g7.symm, .inl g8.symm, trivial⟩, trivial⟩ ?b2 ?w2 ?k2
      case b2 =>
        refine Den.iteT (by simp; omega) ?_
        refine Den.idx _ (by omega) (cellS_get h) ?_
        refine Does.use (hasPrefix s x) ?_
        refine Den.iteT (by simpa using hx) ?_
        exact Den.leaf _
      case w2 => exact ⟨⟨.inl rfl, trivial⟩, trivial⟩
      case k2 =>
        rw [List.any_cons, decide_eq_true hx]; exact hR
    · refine Den.loopN (G := none) (σ2 := ?s3) ⟨[(0, vS s), (7, .agg (cellS twoB)), (8, vI i)], []⟩ ⟨⟨.inl g0.symm, .inl g7.symm, .inl g8.symm, trivial⟩, trivial⟩ ?b3 ?r3
      case b3 =>
        refine Den.iteT (by simp; omega) ?_
        refine Den.idx _ (by omega) (cellS_get h) ?_
        refine Does.use (hasPrefix s x) ?_
        refine Den.iteF (by simpa using hx) ?_
        exact Den.leaf _
      case r3 =>
        rw [List.any_cons, decide_eq_false hx, Bool.false_or]
        refine lsign_loop s K o hE hR r (i + 1) (drop_some h).2.2 (by omega) _ rfl rfl ?_
        show vI (IntKind.i64.wrap ((i : Int) + 1)) = _
        rw [wrapI (by omega) (by omega)]; rfl
theorem two_any (s : ByteArray) : (twoB.any fun x => decide (L x <+: L s)) = decide ((L s).take 2 ∈ twoSigns) := by
  rw [Bool.eq_iff_iff]
  simp only [List.any_eq_true, decide_eq_true_eq, twoB, List.mem_map]
  constructor
  · rintro ⟨x, ⟨t, ht, rfl⟩, hp⟩
    rw [L_mkB] at hp
    have := List.prefix_iff_eq_take.1 hp
    rw [two_len t ht] at this
    rw [← this]; exact ht
  · intro h
    refine ⟨_, ⟨_, h, rfl⟩, ?_⟩
    rw [L_mkB]; exact List.take_prefix _ _
theorem one_byte (c : UInt8) : decide (Lib.indexByte oneSigns c ≥ 0) = decide (c ∈ oneSigns) := by
  have := byte_all' (p := fun c => decide (Lib.indexByte oneSigns c ≥ 0) == decide (c ∈ oneSigns)) (by decide +kernel) c
  simpa using this
theorem lsign (hX : LibX X) (s : ByteArray) (h : L s ≠ []) : Does X 143 [vS s] [] (.ret (vI (sgn (L s) : Nat)) []) := by
  refine Does.of Tryz.func143 (by kernel_rfl) ?_
  cases hl : L s with
  | nil => exact absurd hl h
  | cons c r =>
    obtain ⟨hb0, hi0⟩ := bt_drop (i := 0) (s := s) (c := c) (r := r) (by simpa using hl)
    have hb0 : bt s 0 = (c.toNat : Int) := hb0
    have e : Out.ret (vI (sgn (c :: r) : Nat)) [] = (fun b : Bool => Out.ret (vI ((if b = true then 2 else if c ∈ oneSigns then 1 else 0 : Nat) : Int)) []) (twoB.any fun x => decide (L x <+: L s)) := by
      rw [two_any, hl]
      unfold sgn
      by_cases h2 : (c :: r).take 2 ∈ twoSigns
      · simp only [h2, if_true, decide_true]
      · simp only [h2, if_false, decide_false, Bool.false_eq_true]
    rw [e]
    refine lsign_loop s _ (fun b : Bool => Out.ret (vI ((if b = true then 2 else if c ∈ oneSigns then 1 else 0 : Nat) : Int)) []) ?_ ?_ twoB 0 rfl (by omega) _ rfl rfl rfl
    · refine Den.asrt (by omega) ?_
      refine Does.use (by rw [hb0]; exact indexByte hX _ c) ?_
      have h1 := one_byte c
      by_cases hc : c ∈ oneSigns
      · refine Den.iteT (by rw [decide_eq_true hc] at h1; exact h1) ?_
        exact Den.leaf' (by simp [hc])
      · refine Den.iteF (by rw [decide_eq_false hc] at h1; exact h1) ?_
        exact Den.leaf' (by simp [hc])
    · exact Den.leaf _
set_option maxHeartbeats 4000000 in
theorem rsign (s : ByteArray) (hs : s.size ≤ 1048576) (i : Nat) (c : UInt8) (r : List UInt8) (h : (L s).drop i = c :: r) : Does X 193 [vS s, vI i] [] (.ret (vI (sgn (c :: r) : Nat)) []) := by
  refine Does.of Tryz.func193 (by kernel_rfl) ?_
  obtain ⟨hb, hi⟩ := bt_drop h
  have w1 : IntKind.i64.wrap ((i : Int) + 1) = ((i + 1 : Nat) : Int) := by rw [wrapI (by omega) (by omega)]; rfl
  have w2 : IntKind.i64.wrap ((i : Int) + 2) = ((i + 2 : Nat) : Int) := by rw [wrapI (by omega) (by omega)]; rfl
  have hsz : s.size = i + r.length + 1 := by
    have := congrArg List.length h
    rw [List.length_drop, L_length, List.length_cons] at this; omega
  have ex1 : L (s.extract i (i + 1)) = [c] := by rw [L_extract, h, show i + 1 - i = 1 by omega]; rfl
  have e0 : ((i : Int)).toNat = i := by omega
  have hone : Does X 150 [.d (.sl 1 (rowS (oneSigns.map fun c => mkB [c]))), vS (s.extract ((i : Int)).toNat (IntKind.i64.wrap ((i : Int) + 1)).toNat)] [] (.ret (vB (decide (c ∈ oneSigns))) []) := by
    have := ramong (X := X) (oneSigns.map fun c => mkB [c]) (by simp [oneSigns]) (s.extract i (i + 1))
    rw [e0, w1, show (((i + 1 : Nat) : Int)).toNat = i + 1 by omega]
    have e : ((oneSigns.map fun c => mkB [c]).any fun x => decide (x = s.extract i (i + 1))) = decide (c ∈ oneSigns) := by
      have := any_mem (oneSigns.map fun c => [c]) (s.extract i (i + 1))
      rw [List.map_map] at this
      rw [show (oneSigns.map fun c => mkB [c]) = oneSigns.map (mkB ∘ fun c => [c]) from rfl, this, ex1, decide_eq_decide]
      simp
    rwa [e] at this
  by_cases h2 : i + 2 ≤ s.size
  · have ex2 : L (s.extract i (i + 2)) = (c :: r).take 2 := by rw [L_extract, h, show i + 2 - i = 2 by omega]
    have htwo : Does X 150 [.d (.sl 1 (rowS (twoSigns.map mkB))), vS (s.extract ((i : Int)).toNat (IntKind.i64.wrap ((i : Int) + 2)).toNat)] [] (.ret (vB (decide ((c :: r).take 2 ∈ twoSigns))) []) := by
      have := ramong (X := X) (twoSigns.map mkB) (by simp [twoSigns]) (s.extract i (i + 2))
      rw [e0, w2, show (((i + 2 : Nat) : Int)).toNat = i + 2 by omega]
      rwa [any_mem, ex2] at this
    refine Den.iteT (by rw [w2]; simp; omega) ?_
    refine Den.asrt (by simp only [Option.getD_some]; rw [w2]; omega) ?_
    refine Does.use htwo ?_
    by_cases hm : (c :: r).take 2 ∈ twoSigns
    · refine Den.iteT (decide_eq_true hm) ?_
      exact Den.leaf' (by simp only [sgn, if_pos hm]; rfl)
    · refine Den.iteF (decide_eq_false hm) ?_
      refine Den.asrt (by simp only [Option.getD_some]; rw [w1]; omega) ?_
      refine Does.use hone ?_
      by_cases hc : c ∈ oneSigns
      · refine Den.iteT (by simpa using hc) ?_
        exact Den.leaf' (by simp only [sgn, if_neg hm, if_pos hc]; rfl)
      · refine Den.iteF (by simpa using hc) ?_
        exact Den.leaf' (by simp only [sgn, if_neg hm, if_neg hc]; rfl)
  · have hm : (c :: r).take 2 ∉ twoSigns := fun x => by
      have := two_len _ x
      rw [List.length_take, List.length_cons] at this; omega
    refine Den.iteF (by rw [w2]; simp; omega) ?_
    refine Den.asrt (by simp only [Option.getD_some]; rw [w1]; omega) ?_
    refine Does.use hone ?_
    by_cases hc : c ∈ oneSigns
    · refine Den.iteT (by simpa using hc) ?_
      exact Den.leaf' (by simp only [sgn, if_neg hm, if_pos hc]; rfl)
    · refine Den.iteF (by simpa using hc) ?_
      exact Den.leaf' (by simp only [sgn, if_neg hm, if_neg hc]; rfl)
end Go.Proofs.YtaddhpeainliiaaGreatDoor.Id
/-! ## DenNum -/
namespace Go.Proofs.YtaddhpeainliiaaGreatDoor.Id
open Go
set_option linter.unusedVariables false
set_option linter.unusedSimpArgs false
variable {X : Given}
/-! ### the value of digits -/
def dv (c : UInt8) : Nat := c.toNat - 48
def dval (a : Nat) (l : List UInt8) : Nat := l.foldl (fun x c => 10 * x + dv c) a
theorem dval_nil (a : Nat) : dval a [] = a := List.foldl_nil
theorem dval_cons (a : Nat) (c : UInt8) (r : List UInt8) : dval a (c :: r) = dval (10 * a + dv c) r := List.foldl_cons ..
attribute [irreducible] dval
theorem dval_ge : ∀ (l : List UInt8) (a : Nat), a ≤ dval a l
  | [], a => by rw [dval_nil]; exact Nat.le_refl _
  | c :: r, a => by
    rw [dval_cons]
    have := dval_ge r (10 * a + dv c)
    generalize dval (10 * a + dv c) r = X at *
    omega
def lead0 : List UInt8 → Bool
  | [] => true
  | c :: r => decide (c.toNat = 48) && !r.isEmpty
def numOk (l : List UInt8) : Bool := l.all isD && !lead0 l && decide (dval 0 l ≤ 9223372036854775807)

theorem parseU (l : List UInt8) : ∀ (a : Nat), l.all isD = true → a ≤ 18446744073709551615 → Lib.parseUintM 18446744073709551615 a l = if dval a l ≤ 18446744073709551615 then .ok (dval a l) else .range := by
  induction l with
  | nil => intro a _ ha; unfold Lib.parseUintM; rw [dval_nil, if_pos ha]
  | cons c r ih =>
    intro a hl ha
    simp only [List.all_cons, Bool.and_eq_true] at hl
    have hc := (isD_iff c).mp hl.1
    unfold Lib.parseUintM
    rw [dval_cons]
    rw [if_pos hc]
    have hv := dval_ge r (10 * a + dv c)
    have hd : dv c = c.toNat - 48 := rfl
    by_cases h1 : 1844674407370955162 ≤ a
    · rw [if_pos h1, if_neg (by generalize dval (10 * a + dv c) r = X at *; omega)]
    rw [if_neg h1]
    have e : a * 10 + (c.toNat - 48) = 10 * a + dv c := by rw [hd, Nat.mul_comm]
    rw [e]
    by_cases h2 : 18446744073709551615 < 10 * a + dv c
    · rw [if_pos h2, if_neg (by generalize dval (10 * a + dv c) r = X at *; omega)]
    · rw [if_neg h2, ih _ hl.2 (by omega)]
theorem parseI (c : UInt8) (r : List UInt8) (h : (c :: r).all isD = true) : Lib.parseIntB 64 (c :: r) = if dval 0 (c :: r) ≤ 9223372036854775807 then .ok ((dval 0 (c :: r) : Nat) : Int) else .range := by
  have hc : isD c = true := by simp only [List.all_cons, Bool.and_eq_true] at h; exact h.1
  have hc := (isD_iff c).mp hc
  unfold Lib.parseIntB
  simp only
  rw [if_neg (by omega)]
  unfold Lib.parseUintB
  rw [if_neg (by simp)]
  have e64 : (2 ^ 64 - 1 : Nat) = 18446744073709551615 := by decide
  have e63 : (2 ^ (64 - 1) : Nat) = 9223372036854775808 := by decide
  rw [e64, e63, parseU _ 0 h (by omega)]
  have hn : ¬ c.toNat = 45 := by omega
  generalize dval 0 (c :: r) = X
  by_cases h1 : X ≤ 18446744073709551615
  · rw [if_pos h1]
    simp only
    by_cases h2 : X ≤ 9223372036854775807
    · rw [if_neg (by omega), if_neg (by omega), if_pos h2, if_neg hn]
    · rw [if_pos (by omega), if_neg h2]
  · rw [if_neg h1]
    simp only
    rw [if_neg (by omega)]
theorem dec_snoc {u : Nat} (hu : 1 ≤ u) (c : UInt8) (hc : isD c = true) : Lib.decDigits (10 * u + dv c) = Lib.decDigits u ++ [c] := by
  have h := (isD_iff c).mp hc
  have hd : dv c = c.toNat - 48 := rfl
  rw [Lib.decDigits, dif_neg (by omega)]
  have e1 : (10 * u + dv c) / 10 = u := by omega
  have e2 : (10 * u + dv c) % 10 = dv c := by omega
  rw [e1, e2]
  have e3 : UInt8.ofNat (48 + dv c) = c := by rw [hd, show 48 + (c.toNat - 48) = c.toNat by omega]; simp
  rw [e3]
theorem dec_val : ∀ (r : List UInt8) (u : Nat), 1 ≤ u → r.all isD = true → Lib.decDigits (dval u r) = Lib.decDigits u ++ r
  | [], u, _, _ => by rw [dval_nil, List.append_nil]
  | c :: r, u, hu, hr => by
    simp only [List.all_cons, Bool.and_eq_true] at hr
    rw [dval_cons]
    rw [dec_val r (10 * u + dv c) (by omega) hr.2, dec_snoc hu c hr.1]
    simp
theorem dec_head (u : Nat) : 1 ≤ u → ∀ t, Lib.decDigits u ≠ 48 :: t := by
  induction u using Nat.strongRecOn with
  | ind u ih =>
    intro hu t h
    rw [Lib.decDigits] at h
    split at h
    · injection h with h1 _
      have := congrArg UInt8.toNat h1
      rw [UInt8.toNat_ofNat_of_lt' (by show 48 + u < 256; omega)] at this
      have h48 : (48 : UInt8).toNat = 48 := rfl
      omega
    · rename_i hlt
      cases hx : Lib.decDigits (u / 10) with
      | nil => 
        have := Lib.decDigits_length (u / 10)
        have h2 := Lib.nDigits_pos (u / 10)
        rw [hx] at this; simp at this; omega
      | cons d x =>
        rw [hx] at h
        injection h with h1 _
        subst h1
        exact ih (u / 10) (by omega) (by omega) x hx
theorem itoa_lead (c : UInt8) (r : List UInt8) (h : (c :: r).all isD = true) : decide (Lib.itoa ((dval 0 (c :: r) : Nat) : Int) = c :: r) = !lead0 (c :: r) := by
  have hh := h
  simp only [List.all_cons, Bool.and_eq_true] at h
  have hc := (isD_iff c).mp h.1
  have hi : Lib.itoa ((dval 0 (c :: r) : Nat) : Int) = Lib.decDigits (dval 0 (c :: r)) := by
    unfold Lib.itoa
    rw [if_neg (Int.not_lt.mpr (Int.natCast_nonneg _)), Int.toNat_natCast]
  rw [hi]
  have e0 : dval 0 (c :: r) = dval (dv c) r := by rw [dval_cons, show 10 * 0 + dv c = dv c by omega]
  rw [e0]
  have hd : dv c = c.toNat - 48 := rfl
  have ec : UInt8.ofNat (48 + dv c) = c := by rw [hd, show 48 + (c.toNat - 48) = c.toNat by omega]; simp
  by_cases h0 : c.toNat = 48
  · have hz : dv c = 0 := by omega
    have hc48 : c = 48 := by rw [← ec, hz]; rfl
    unfold lead0
    cases r with
    | nil =>
      have hz : Lib.decDigits (dval (dv c) []) = [c] := by
        rw [dval_nil, Lib.decDigits_one (by omega), ec]
      rw [decide_eq_true hz]; simp
    | cons d r =>
      have : ¬ Lib.decDigits (dval (dv c) (d :: r)) = c :: d :: r := by
        intro hx
        have hx' : Lib.decDigits (dval (dv c) (d :: r)) = 48 :: (d :: r) := hx.trans (by rw [hc48])
        rcases Nat.eq_zero_or_pos (dval (dv c) (d :: r)) with hv | hv
        · rw [hv, Lib.decDigits_one (by omega)] at hx'; simp at hx'
        · exact dec_head _ hv _ hx'
      simp [this, h0]
  · unfold lead0
    rw [dec_val r (dv c) (by omega) h.2, Lib.decDigits_one (by omega), ec]
    simp [h0]

theorem lwhole (hX : LibX X) (s : ByteArray) (hs : s.size ≤ 1048576) (h : (L s).all isD = true) (hne : L s ≠ []) : ∃ v, Does X 142 [vS s] [] (.ret (.tuple [vI v, vB (numOk (L s))]) []) ∧ (numOk (L s) = true → v = ((dval 0 (L s) : Nat) : Int)) := by
  cases hl : L s with
  | nil => exact absurd hl hne
  | cons c r =>
    have hall : (c :: r).all isD = true := by rw [← hl]; exact h
    have hc : isD c = true := by
      simp only [List.all_cons, Bool.and_eq_true] at hall; exact hall.1
    have hp := parseI c r hall
    have hw := hX.wh s c r hl ((isD_iff c).1 hc) (by omega) (by rw [hl, hp]; split <;> simp)
    rw [hl] at hw
    unfold wholeV at hw
    unfold numOk
    by_cases h2 : dval 0 (c :: r) ≤ 9223372036854775807
    · rw [hp, if_pos h2] at hw
      simp only at hw
      rw [itoa_lead c r hall] at hw
      rw [hall, decide_eq_true h2]
      simp only [Bool.true_and, Bool.and_true]
      exact ⟨_, Does.ext hw, fun _ => rfl⟩
    · rw [hp, if_neg h2] at hw
      simp only at hw
      rw [decide_eq_false h2, Bool.and_false]
      exact ⟨_, Does.ext hw, by simp⟩
/-! ### the reference's number -/
def numR (l : List UInt8) : Int × Int := if numOk l = true then (((dval 0 l : Nat) : Int), 0) else (0, 121)
def numV (x : Int × Int) : Out := .ret (.tuple [vI x.1, vI x.2]) []
theorem rnum_arith (a d : Nat) (hd : d ≤ 9) : ((a : Int) > ((9223372036854775807 - (d : Int)) / 10)) ↔ ¬ (10 * a + d ≤ 9223372036854775807) := by omega
theorem u64_id (x : Nat) (h : x ≤ 9223372036854775807) : IntKind.u64.wrap (x : Int) = (x : Int) := by
  simp only [IntKind.wrap, IntKind.bits, IntKind.signed, Bool.false_and, if_false, Bool.false_eq_true]
  omega
abbrev vU (x : Int) : V := .d (.int .u64 x)
set_option maxHeartbeats 4000000 in
theorem rnum_loop (s : ByteArray) (hs : s.size ≤ 1048576) (K : Ex → St → T Out) (O : Int × Int → Out)
    (hE : ∀ a : Nat, a ≤ 9223372036854775807 → Den Tryz.prog tt X (K (.exit 0) ⟨[(4, vU a)], []⟩) (O (a, 0))) (hR : Den Tryz.prog tt X (K .ret ⟨[(2, vI 0), (3, vI 121)], []⟩) (O (0, 121))) :
    ∀ (r : List UInt8) (i a : Nat), (L s).drop i = r → a ≤ 9223372036854775807 → ∀ σ : St, getT σ.t 0 = vS s → getT σ.t 4 = vU a → getT σ.t 5 = vI i →
    Den Tryz.prog tt X (.loop (lp Tryz.f191 0) σ K) (O (if (r.all isD && decide (dval a r ≤ 9223372036854775807)) = true then (((dval a r : Nat) : Int), 0) else (0, 121)))
  | [], i, a, h, ha, σ, g0, g4, g5 => by
    have h1 := drop_none h; rw [L_length] at h1
    refine Den.loopW (G := none) (σ2 := ?s1) (e := .exit 0) ⟨[(0, vS s), (4, vU a), (5, vI i)], []⟩ ⟨[(4, vU a)], []⟩ (by simp) (by simp) ⟨⟨.inl g0.symm, .inl g4.symm, .inl g5.symm, trivial⟩, trivial⟩ ?b1 ?w1 ?k1
    case b1 =>
      refine Den.iteF (by simp; omega) ?_
      exact Den.leaf _
    case w1 => exact ⟨⟨.inl rfl, trivial⟩, trivial⟩
    case k1 =>
      rw [dval_nil, decide_eq_true ha]; exact hE a ha
  | c :: r, i, a, h, ha, σ, g0, g4, g5 => by
    obtain ⟨hb, hi⟩ := bt_drop h
    have wk0 : Wk ⟨[(0, vS s), (4, vU a), (5, vI i)], []⟩ σ := ⟨⟨.inl g0.symm, .inl g4.symm, .inl g5.symm, trivial⟩, trivial⟩
    by_cases hc : isD c = true
    · have hc' := (isD_iff c).mp hc
      have hd9 : dv c ≤ 9 := by unfold dv; omega
      have e1 : IntKind.u64.wrap (IntKind.u8.wrap ((c.toNat : Int) - 48)) = ((dv c : Nat) : Int) := by
        rw [wrapC (by omega) (by omega), show (c.toNat : Int) - 48 = ((dv c : Nat) : Int) by unfold dv; omega, u64_id _ (by omega)]
      have e4 : IntKind.u64.wrap (9223372036854775807 - ((dv c : Nat) : Int)) = 9223372036854775807 - ((dv c : Nat) : Int) := by
        rw [show (9223372036854775807 : Int) - ((dv c : Nat) : Int) = ((9223372036854775807 - dv c : Nat) : Int) by omega, u64_id _ (by omega)]
      have e5 : IntKind.u64.wrap ((9223372036854775807 - ((dv c : Nat) : Int)).tdiv 10) = (9223372036854775807 - ((dv c : Nat) : Int)) / 10 := by
        rw [Int.tdiv_eq_ediv_of_nonneg (by omega), show ((9223372036854775807 : Int) - ((dv c : Nat) : Int)) / 10 = (((9223372036854775807 - dv c) / 10 : Nat) : Int) by omega, u64_id _ (by omega)]
      by_cases hx : 10 * a + dv c ≤ 9223372036854775807
      · refine Den.loopN (G := none) (σ2 := ?s2) _ wk0 ?b2 ?r2
        case b2 =>
          refine Den.iteT (by simp; omega) ?_
          refine Den.asrt (by omega) ?_
          refine Does.use (by rw [hb]; exact rdigit c) ?_
          refine Den.iteF (by simp [hc]) ?_
          refine Den.asrt (by omega) ?_
          refine Den.asrt (by simp) ?_
          refine Den.iteF (by
            rw [hb, e1, e4, e5, decide_eq_false_iff_not]
            exact fun hh => (rnum_arith a _ hd9).mp hh hx) ?_
          exact Den.leaf _
        case r2 =>
          have e : (if ((c :: r).all isD && decide (dval a (c :: r) ≤ 9223372036854775807)) = true then (((dval a (c :: r) : Nat) : Int), (0 : Int)) else (0, 121)) = (if (r.all isD && decide (dval (10 * a + dv c) r ≤ 9223372036854775807)) = true then (((dval (10 * a + dv c) r : Nat) : Int), 0) else (0, 121)) := by
            simp only [List.all_cons, hc, Bool.true_and, dval_cons]
          rw [e]
          refine rnum_loop s hs K O hE hR r (i + 1) (10 * a + dv c) (drop_some h).2.2 hx _ rfl ?_ ?_
          · show vU (IntKind.u64.wrap (IntKind.u64.wrap (10 * (a : Int)) + IntKind.u64.wrap (IntKind.u8.wrap (bt s i - 48)))) = _
            rw [hb, e1, show (10 : Int) * (a : Int) = ((10 * a : Nat) : Int) by omega, u64_id _ (by omega), show ((10 * a : Nat) : Int) + ((dv c : Nat) : Int) = ((10 * a + dv c : Nat) : Int) by omega, u64_id _ hx]
          · show vI (IntKind.i64.wrap ((i : Int) + 1)) = _
            rw [wrapI (by omega) (by omega)]; rfl
      · refine Den.loopW (G := none) (σ2 := ?s3) (e := .ret) _ ⟨[(2, vI 0), (3, vI 121)], []⟩ (by simp) (by simp) wk0 ?b3 ?w3 ?k3
        case b3 =>
          refine Den.iteT (by simp; omega) ?_
          refine Den.asrt (by omega) ?_
          refine Does.use (by rw [hb]; exact rdigit c) ?_
          refine Den.iteF (by simp [hc]) ?_
          refine Den.asrt (by omega) ?_
          refine Den.asrt (by simp) ?_
          refine Den.iteT (by
            rw [hb, e1, e4, e5, decide_eq_true_eq]
            exact (rnum_arith a _ hd9).mpr hx) ?_
          exact Den.leaf _
        case w3 => exact ⟨⟨.inl rfl, .inl rfl, trivial⟩, trivial⟩
        case k3 =>
          have hv := dval_ge r (10 * a + dv c)
          have : ¬ dval a (c :: r) ≤ 9223372036854775807 := by
            rw [dval_cons]; intro hq; exact hx (Nat.le_trans hv hq)
          rw [decide_eq_false this]; simpa using hR
    · refine Den.loopW (G := none) (σ2 := ?s4) (e := .ret) _ ⟨[(2, vI 0), (3, vI 121)], []⟩ (by simp) (by simp) wk0 ?b4 ?w4 ?k4
      case b4 =>
        refine Den.iteT (by simp; omega) ?_
        refine Den.asrt (by omega) ?_
        refine Does.use (by rw [hb]; exact rdigit c) ?_
        refine Den.iteT (by simp [hc]) ?_
        exact Den.leaf _
      case w4 => exact ⟨⟨.inl rfl, .inl rfl, trivial⟩, trivial⟩
      case k4 => simpa [hc] using hR
theorem rnumber (s : ByteArray) (hs : s.size ≤ 1048576) : Does X 191 [vS s] [] (numV (numR (L s))) := by
  refine Does.of Tryz.func191 (by kernel_rfl) ?_
  cases h : L s with
  | nil =>
    have hz : s.size = 0 := by rw [size_eq_L, h]; rfl
    refine Den.iteT (decide_eq_true (by omega)) ?_
    exact Den.leaf' (by simp [numR, numOk, lead0, numV])
  | cons c r =>
    obtain ⟨hb0, hi0⟩ := bt_drop (i := 0) (s := s) (c := c) (r := r) (by simpa using h)
    have hb0 : bt s 0 = (c.toNat : Int) := hb0
    have hsz : s.size = r.length + 1 := by rw [size_eq_L, h]; rfl
    have hgo : lead0 (c :: r) = false → numV (numR (c :: r)) = numV (if ((c :: r).all isD && decide (dval 0 (c :: r) ≤ 9223372036854775807)) = true then (((dval 0 (c :: r) : Nat) : Int), 0) else (0, 121)) := fun hl => by
      unfold numR numOk; rw [hl]; simp
    refine Den.iteF (decide_eq_false (by omega)) ?_
    by_cases h1 : r = []
    · subst h1
      refine Den.iteF (by simp at hsz; simp; omega) ?_
      rw [hgo (by simp [lead0])]
      refine rnum_loop s hs _ numV ?_ ?_ [c] 0 0 (by simpa using h) (by omega) _ rfl rfl rfl
      · intro a ha
        refine Den.leaf' ?_
        rw [wrapI (by omega) (by omega)]; rfl
      · exact Den.leaf _
    · have : 1 ≤ r.length := by cases r with | nil => exact absurd rfl h1 | cons _ _ => simp
      refine Den.iteT (by simp; omega) ?_
      refine Den.asrt (by omega) ?_
      by_cases h2 : c.toNat = 48
      · refine Den.iteT (by rw [hb0]; simp; omega) ?_
        refine Den.leaf' ?_
        have : lead0 (c :: r) = true := by cases r with | nil => exact absurd rfl h1 | cons _ _ => simp [lead0, h2]
        unfold numR numOk; rw [this]; simp [numV]
      · refine Den.iteF (by rw [hb0]; simp; omega) ?_
        rw [hgo (by simp [lead0, h2])]
        refine rnum_loop s hs _ numV ?_ ?_ (c :: r) 0 0 (by simpa using h) (by omega) _ rfl rfl rfl
        · intro a ha
          refine Den.leaf' ?_
          rw [wrapI (by omega) (by omega)]; rfl
        · exact Den.leaf _
end Go.Proofs.YtaddhpeainliiaaGreatDoor.Id
/-! ## DenTok -/
namespace Go.Proofs.YtaddhpeainliiaaGreatDoor.Id
open Go
set_option linter.unusedVariables false
set_option linter.unusedSimpArgs false
variable {X : Given}
def headL : List UInt8 → Bool
  | [] => false
  | c :: _ => isL c
/-- kind, length, errno -/
def tokC (c : UInt8) (r : List UInt8) : Nat × Nat × Nat :=
    if isL c = true then
      if 32 < ((c :: r).takeWhile isW).length then (0, 0, 123) else if (c :: r).take ((c :: r).takeWhile isW).length ∈ keyTexts then (4, ((c :: r).takeWhile isW).length, 0) else (1, ((c :: r).takeWhile isW).length, 0)
    else if isD c = true then
      if (numOk ((c :: r).take ((c :: r).takeWhile isD).length) && !headL ((c :: r).drop ((c :: r).takeWhile isD).length)) = true then (2, ((c :: r).takeWhile isD).length, 0) else (0, 0, 121)
    else if c.toNat = 34 then
      match quo r with
      | none => (0, 0, 122)
      | some (t, n) => (3, n, 0)
    else if sgn (c :: r) = 0 then (0, 0, 120) else (5, sgn (c :: r), 0)
def tok : List UInt8 → Nat × Nat × Nat
  | [] => (0, 0, 120)
  | c :: r => tokC c r
theorem tw_le (p : UInt8 → Bool) (l : List UInt8) : (l.takeWhile p).length ≤ l.length := (List.takeWhile_sublist (p := p) (l := l)).length_le
theorem tw_take (p : UInt8 → Bool) (l : List UInt8) : l.take (l.takeWhile p).length = l.takeWhile p := by
  induction l with
  | nil => rfl
  | cons c r ih =>
    rw [List.takeWhile_cons]
    by_cases h : p c = true
    · simp [h, ih]
    · simp [h]
theorem tw_all (p : UInt8 → Bool) (l : List UInt8) : (l.takeWhile p).all p = true := by
  induction l with
  | nil => rfl
  | cons c r ih =>
    rw [List.takeWhile_cons]
    by_cases h : p c = true
    · rw [if_pos h, List.all_cons, h, ih]; rfl
    · simp [h]
theorem ql_le : ∀ (f : Nat) (l t : List UInt8) (m : Nat), ql f l = some (t, m) → 1 ≤ m ∧ m ≤ l.length
  | 0, l, t, m, h => by cases h
  | f + 1, [], t, m, h => by cases h
  | f + 1, c :: r, t, m, h => by
    unfold ql at h
    split at h
    · injection h with h; injection h with _ h; simp; omega
    · split at h
      · cases h
      · rename_i b n hp
        obtain ⟨p1, p2⟩ := pc_pos hp
        split at h
        · cases h
        · rename_i t' m' hq
          have ih := ql_le f _ t' m' hq
          rw [List.length_drop] at ih
          injection h with h; injection h with _ h; omega
theorem quo_le {r t : List UInt8} {n : Nat} (h : quo r = some (t, n)) : 2 ≤ n ∧ n ≤ r.length + 1 := by
  unfold quo at h
  split at h
  · cases h
  · rename_i t' m' hq
    have := ql_le _ _ _ _ hq
    split at h
    · injection h with h; injection h with _ h; omega
    · cases h
theorem sgn_le (c : UInt8) (r : List UInt8) : sgn (c :: r) ≤ r.length + 1 ∧ sgn (c :: r) ≤ 2 := by
  unfold sgn
  by_cases h : (c :: r).take 2 ∈ twoSigns
  · rw [if_pos h]
    have := two_len _ h
    rw [List.length_take, List.length_cons] at this; omega
  · rw [if_neg h]; simp only; split <;> omega
theorem tok_le (l : List UInt8) : (tok l).2.1 ≤ l.length := by
  cases l with
  | nil => exact Nat.zero_le _
  | cons c r =>
    show (tokC c r).2.1 ≤ _
    have h1 := tw_le isW (c :: r)
    have h2 := tw_le isD (c :: r)
    have h3 := (sgn_le c r).1
    unfold tokC
    split
    · split
      · exact Nat.zero_le _
      · split <;> exact h1
    · split
      · split
        · exact h2
        · exact Nat.zero_le _
      · split
        · cases hq : quo r with
          | none => exact Nat.zero_le _
          | some z => obtain ⟨t, n⟩ := z; have := (quo_le hq).2; exact this
        · split
          · exact Nat.zero_le _
          · exact h3
def tokO (x : Nat × Nat × Nat) : Out := .ret (.tuple [vI x.1, vI x.2.1, vI x.2.2]) []
theorem take0 (s : ByteArray) (n : Nat) : L (s.extract 0 (n : Int).toNat) = (L s).take n := by rw [L_extract]; simp
set_option maxHeartbeats 1000000 in
theorem ltoken (hX : LibX X) (s : ByteArray) (hs : s.size ≤ 1048576) (hne : L s ≠ []) : Does X 102 [vS s] [] (tokO (tok (L s))) := by
  refine DoesQ.eq (DoesQ.of Tryz.func102 (by kernel_rfl) ?_)
  cases h : L s with
  | nil => exact absurd h hne
  | cons c r =>
    obtain ⟨hb0, hi0⟩ := bt_drop (i := 0) (s := s) (c := c) (r := r) (by simpa using h)
    have hb0 : bt s 0 = (c.toNat : Int) := hb0
    have hsz : s.size = (c :: r).length := by rw [size_eq_L, h]
    have hd0 : (L s).drop 0 = c :: r := by rw [h]; rfl
    show WP X _ (· = tokO (tokC c r))
    unfold tokC
    refine WP.asrt (by omega) ?_
    refine WP.use1 (by rw [hb0]; exact lletter c) ?_
    by_cases h1 : isL c = true
    · refine WP.iteT h1 ?_
      refine WP.use1 (run_fn s hs 0 (by omega) _ _ lboth) ?_
      rw [if_pos h1, hd0]
      have hle := tw_le isW (c :: r)
      have e0 := take0 s
      rw [h] at e0
      generalize ((c :: r).takeWhile isW).length = n at *
      by_cases h2 : 32 < n
      · refine WP.iteT (by simp; omega) ?_
        exact WP.leaf (by rw [if_pos h2]; rfl)
      refine WP.iteF (by simp; omega) ?_
      refine WP.asrt (by simp only [Option.getD_none, Option.getD_some]; omega) ?_
      refine WP.use1 (lkey _) ?_
      rw [if_neg h2]
      by_cases h3 : (c :: r).take n ∈ keyTexts
      · refine WP.iteT (by show decide (L (s.extract 0 (n : Int).toNat) ∈ keyTexts) = true; rw [e0]; exact decide_eq_true h3) ?_
        exact WP.leaf (by rw [if_pos h3]; rfl)
      · refine WP.iteF (by show decide (L (s.extract 0 (n : Int).toNat) ∈ keyTexts) = false; rw [e0]; exact decide_eq_false h3) ?_
        exact WP.leaf (by rw [if_neg h3]; rfl)
    refine WP.iteF (by simpa using h1) ?_
    refine WP.use1 (by rw [hb0]; exact ldigit c) ?_
    rw [if_neg h1]
    by_cases h2 : isD c = true
    · refine WP.iteT h2 ?_
      refine WP.use1 (run_fn s hs 0 (by omega) _ _ ldigit) ?_
      rw [if_pos h2, hd0]
      have hle := tw_le isD (c :: r)
      have hall := tw_all isD (c :: r)
      have htk := tw_take isD (c :: r)
      have hpos : 1 ≤ ((c :: r).takeWhile isD).length := by rw [List.takeWhile_cons, h2]; simp
      rw [← htk] at hall
      clear htk
      have e0 := take0 s
      rw [h] at e0
      generalize ((c :: r).takeWhile isD).length = n at *
      have hsz0 : (s.extract 0 (n : Int).toNat).size ≤ 1048576 := by rw [size_eq_L, e0, List.length_take]; omega
      have hne0 : L (s.extract 0 (n : Int).toNat) ≠ [] := by rw [e0]; cases n with | zero => omega | succ n => simp
      obtain ⟨v, hw, _⟩ := lwhole hX (s.extract 0 (n : Int).toNat) hsz0 (by rw [e0]; exact hall) hne0
      rw [e0] at hw
      refine WP.asrt (by simp only [Option.getD_none, Option.getD_some]; omega) ?_
      refine WP.use1 hw ?_
      cases hn : numOk ((c :: r).take n) with
      | false =>
        refine WP.iteT (by rfl) ?_
        exact WP.leaf (by simp; rfl)
      | true =>
        refine WP.iteF (by rfl) ?_
        cases hd : (c :: r).drop n with
        | nil =>
          have := drop_none hd
          refine WP.iteF (by simp; omega) ?_
          exact WP.leaf (by simp [headL]; rfl)
        | cons d t =>
          obtain ⟨hbd, hid⟩ := bt_drop (s := s) (i := n) (c := d) (r := t) (by rw [h]; exact hd)
          refine WP.iteT (by simp; omega) ?_
          refine WP.asrt (by omega) ?_
          refine WP.use1 (by rw [hbd]; exact lletter d) ?_
          by_cases h5 : isL d = true
          · refine WP.iteT h5 ?_
            exact WP.leaf (by simp [headL, h5]; rfl)
          · refine WP.iteF (by simpa using h5) ?_
            exact WP.leaf (by simp [headL, h5]; rfl)
    refine WP.iteF (by simpa using h2) ?_
    rw [if_neg h2]
    by_cases h3 : c.toNat = 34
    · refine WP.iteT (by rw [hb0]; simp; omega) ?_
      rw [if_pos h3]
      have hq := lquoted (X := X) s hs
      rw [h] at hq
      simp only [if_pos h3] at hq
      refine WP.use1 hq ?_
      cases hx : quo r with
      | none =>
        refine WP.iteT (by rfl) ?_
        exact WP.leaf rfl
      | some z =>
        obtain ⟨t, n⟩ := z
        have := quo_le hx
        refine WP.iteF (by simp; omega) ?_
        exact WP.leaf rfl
    · refine WP.iteF (by rw [hb0]; simp; omega) ?_
      rw [if_neg h3]
      have hsg := lsign hX s (by rw [h]; simp)
      rw [h] at hsg
      refine WP.use1 hsg ?_
      by_cases h4 : sgn (c :: r) = 0
      · refine WP.iteT (by simp; omega) ?_
        exact WP.leaf (by rw [if_pos h4]; rfl)
      · refine WP.iteF (by simp; omega) ?_
        exact WP.leaf (by rw [if_neg h4]; rfl)
end Go.Proofs.YtaddhpeainliiaaGreatDoor.Id
/-! ## DenTokR -/
namespace Go.Proofs.YtaddhpeainliiaaGreatDoor.Id
open Go
set_option linter.unusedVariables false
set_option linter.unusedSimpArgs false
variable {X : Given}
abbrev tokBx : List (Nat × List V) := [(4, [vI 0, vI 0, vI 0])]
/-- where the reference's loops stand -/
abbrev rtSt (s : ByteArray) (a i : Nat) : St := ⟨[(0, vS s), (1, vI a), (4, .box 4 0), (6, vI i)], tokBx⟩
theorem rword_loop (s : ByteArray) (hs : s.size ≤ 1048576) (a : Nat) (K : Ex → St → T Out) (Q : Out → Prop) : ∀ (r : List UInt8) (i : Nat), (L s).drop i = r →
    WP X (K (.exit 1) (rtSt s a (i + (r.takeWhile isW).length))) Q → ∀ σ : St, getT σ.t 0 = vS s → getT σ.t 1 = vI a → getT σ.t 4 = .box 4 0 → getT σ.t 6 = vI i → getB σ.b 4 = some [vI 0, vI 0, vI 0] →
    WP X (.loop (lp Tryz.f163 0) σ K) Q
  | r, i, h, hK, σ, g0, g1, g4, g6, gb => by
    refine WP.round (rtSt s a i) ⟨⟨.inl g0.symm, .inl g1.symm, .inl g4.symm, .inl g6.symm, trivial⟩, ⟨WkB.box gb, trivial⟩⟩ ?_
    cases r with
    | nil =>
      have h1 := drop_none h; rw [L_length] at h1
      refine WP.iteF (by simp; omega) ?_
      exact WP.leaf ⟨rtSt s a i, ⟨⟨.inl rfl, .inl rfl, .inl rfl, .inl rfl, trivial⟩, ⟨WkB.box rfl, trivial⟩⟩, by simpa using hK⟩
    | cons c r =>
      obtain ⟨hb, hi⟩ := bt_drop h
      have hnext : isW c = true → WP X (.loop (lp Tryz.f163 0) ⟨[(0, vS s), (1, vI a), (4, .box 4 0), (6, vI (IntKind.i64.wrap ((i : Int) + 1)))], tokBx⟩ K) Q := fun hw => by
        refine rword_loop s hs a K Q r (i + 1) (drop_some h).2.2 ?_ _ rfl rfl rfl ?_ rfl
        · rw [List.takeWhile_cons, if_pos hw, List.length_cons] at hK
          rw [show i + 1 + (r.takeWhile isW).length = i + ((r.takeWhile isW).length + 1) by omega]; exact hK
        · show vI (IntKind.i64.wrap ((i : Int) + 1)) = _
          rw [wrapI (by omega) (by omega)]; rfl
      have hgo : isW c = true → ∀ σ : St, getT σ.t 0 = vS s → getT σ.t 1 = vI a → getT σ.t 4 = .box 4 0 → getT σ.t 6 = vI (IntKind.i64.wrap ((i : Int) + 1)) → getB σ.b 4 = some [vI 0, vI 0, vI 0] → WP X (.loop (lp Tryz.f163 0) σ K) Q := fun hw σ e0 e1 e4 e6 eb => by
        refine rword_loop s hs a K Q r (i + 1) (drop_some h).2.2 ?_ σ e0 e1 e4 ?_ eb
        · rw [List.takeWhile_cons, if_pos hw, List.length_cons] at hK
          rw [show i + 1 + (r.takeWhile isW).length = i + ((r.takeWhile isW).length + 1) by omega]; exact hK
        · rw [e6, wrapI (by omega) (by omega)]; rfl
      refine WP.iteT (by simp; omega) ?_
      refine WP.asrt (by omega) ?_
      refine WP.use1 (by rw [hb]; exact rletter c) ?_
      by_cases h1 : isL c = true
      · refine WP.iteT h1 ?_
        exact WP.leaf (hgo (by unfold isW; rw [h1]; rfl) _ rfl rfl rfl rfl rfl)
      refine WP.iteF (by simpa using h1) ?_
      refine WP.asrt (by omega) ?_
      refine WP.use1 (by rw [hb]; exact rdigit c) ?_
      by_cases h2 : isD c = true
      · refine WP.iteT h2 ?_
        exact WP.leaf (hgo (by unfold isW; rw [h2]; simp) _ rfl rfl rfl rfl rfl)
      · refine WP.iteF (by simpa using h2) ?_
        refine WP.leaf ⟨rtSt s a i, ⟨⟨.inl rfl, .inl rfl, .inl rfl, .inl rfl, trivial⟩, ⟨WkB.box rfl, trivial⟩⟩, ?_⟩
        rw [List.takeWhile_cons, if_neg (by unfold isW; simp [h1, h2])] at hK
        simpa using hK
theorem rdig_loop (s : ByteArray) (hs : s.size ≤ 1048576) (a : Nat) (K : Ex → St → T Out) (Q : Out → Prop) : ∀ (r : List UInt8) (i : Nat), (L s).drop i = r →
    WP X (K (.exit 3) (rtSt s a (i + (r.takeWhile isD).length))) Q → ∀ σ : St, getT σ.t 0 = vS s → getT σ.t 1 = vI a → getT σ.t 4 = .box 4 0 → getT σ.t 6 = vI i → getB σ.b 4 = some [vI 0, vI 0, vI 0] →
    WP X (.loop (lp Tryz.f163 1) σ K) Q
  | r, i, h, hK, σ, g0, g1, g4, g6, gb => by
    refine WP.round (rtSt s a i) ⟨⟨.inl g0.symm, .inl g1.symm, .inl g4.symm, .inl g6.symm, trivial⟩, ⟨WkB.box gb, trivial⟩⟩ ?_
    cases r with
    | nil =>
      have h1 := drop_none h; rw [L_length] at h1
      refine WP.iteF (by simp; omega) ?_
      exact WP.leaf ⟨rtSt s a i, ⟨⟨.inl rfl, .inl rfl, .inl rfl, .inl rfl, trivial⟩, ⟨WkB.box rfl, trivial⟩⟩, by simpa using hK⟩
    | cons c r =>
      obtain ⟨hb, hi⟩ := bt_drop h
      refine WP.iteT (by simp; omega) ?_
      refine WP.asrt (by omega) ?_
      refine WP.use1 (by rw [hb]; exact rdigit c) ?_
      by_cases h2 : isD c = true
      · refine WP.iteT h2 ?_
        refine WP.leaf (rdig_loop s hs a K Q r (i + 1) (drop_some h).2.2 ?_ _ rfl rfl rfl ?_ rfl)
        · rw [List.takeWhile_cons, if_pos h2, List.length_cons] at hK
          rw [show i + 1 + (r.takeWhile isD).length = i + ((r.takeWhile isD).length + 1) by omega]; exact hK
        · show vI (IntKind.i64.wrap ((i : Int) + 1)) = _
          rw [wrapI (by omega) (by omega)]; rfl
      · refine WP.iteF (by simpa using h2) ?_
        refine WP.leaf ⟨rtSt s a i, ⟨⟨.inl rfl, .inl rfl, .inl rfl, .inl rfl, trivial⟩, ⟨WkB.box rfl, trivial⟩⟩, ?_⟩
        rw [List.takeWhile_cons, if_neg h2] at hK
        simpa using hK
/-- a token and an errno -/
abbrev tkV (k a b e : Int) : Out := .ret (.tuple [.agg [.int .i64 k, .int .i64 a, .int .i64 b], vI e]) []
def tokR (i : Nat) (x : Nat × Nat × Nat) : Int × Int × Int × Int := if x.2.2 = 0 then (x.1, i, ((i + x.2.1 : Nat) : Int), 0) else (0, i, 0, x.2.2)
abbrev tkO (x : Int × Int × Int × Int) : Out := tkV x.1 x.2.1 x.2.2.1 x.2.2.2
set_option maxHeartbeats 2000000 in
theorem rtoken (s : ByteArray) (hs : s.size ≤ 1048576) (i : Nat) (hi : i < s.size) : Does X 163 [vS s, vI i] [] (tkO (tokR i (tok ((L s).drop i)))) := by
  refine DoesQ.eq (DoesQ.of Tryz.func163 (by kernel_rfl) ?_)
  cases h : (L s).drop i with
  | nil => have := drop_none h; rw [L_length] at this; omega
  | cons c r =>
    obtain ⟨hb, _⟩ := bt_drop h
    have hlen : s.size - i = (c :: r).length := by rw [← h, List.length_drop, L_length]
    have ei : ((i : Int)).toNat = i := by omega
    show WP X _ (· = tkO (tokR i (tokC c r)))
    unfold tokC
    refine WP.iteF (by simp; omega) ?_
    refine WP.asrt (by omega) ?_
    refine WP.use1 (by rw [hb]; exact rletter c) ?_
    by_cases h1 : isL c = true
    · refine WP.iteT h1 ?_
      refine rword_loop s hs i _ _ (c :: r) i h ?_ _ rfl rfl rfl rfl rfl
      rw [if_pos h1]
      have hle := tw_le isW (c :: r)
      generalize ((c :: r).takeWhile isW).length = n at *
      have en : (((i + n : Nat) : Int)).toNat = i + n := by omega
      have e0 : L (s.extract i (i + n)) = (c :: r).take n := by rw [L_extract, h, show i + n - i = n by omega]
      have esub : IntKind.i64.wrap (((i + n : Nat) : Int) - (i : Int)) = (n : Int) := by rw [wrapI (by omega) (by omega)]; omega
      by_cases h2 : 32 < n
      · refine WP.iteT (by rw [esub]; simp; omega) ?_
        exact WP.leaf (by rw [if_pos h2]; rfl)
      refine WP.iteF (by rw [esub]; simp; omega) ?_
      refine WP.asrt (by simp only [Option.getD_some]; omega) ?_
      refine WP.use1 (rkey _) ?_
      rw [if_neg h2]
      by_cases h3 : (c :: r).take n ∈ keyTexts
      · refine WP.iteT (by show decide (L (s.extract ((i : Int)).toNat (((i + n : Nat) : Int)).toNat) ∈ keyTexts) = true; rw [ei, en, e0]; exact decide_eq_true h3) ?_
        exact WP.leaf (by rw [if_pos h3]; rfl)
      · refine WP.iteF (by show decide (L (s.extract ((i : Int)).toNat (((i + n : Nat) : Int)).toNat) ∈ keyTexts) = false; rw [ei, en, e0]; exact decide_eq_false h3) ?_
        exact WP.leaf (by rw [if_neg h3]; rfl)
    refine WP.iteF (by simpa using h1) ?_
    refine WP.use1 (by rw [hb]; exact rdigit c) ?_
    rw [if_neg h1]
    by_cases h2 : isD c = true
    · refine WP.iteT h2 ?_
      refine rdig_loop s hs i _ _ (c :: r) i h ?_ _ rfl rfl rfl rfl rfl
      rw [if_pos h2]
      have hle := tw_le isD (c :: r)
      generalize ((c :: r).takeWhile isD).length = n at *
      have en : (((i + n : Nat) : Int)).toNat = i + n := by omega
      have e0 : L (s.extract i (i + n)) = (c :: r).take n := by rw [L_extract, h, show i + n - i = n by omega]
      have hsz0 : (s.extract i (i + n)).size ≤ 1048576 := by rw [size_eq_L, e0, List.length_take]; omega
      have hnum := rnumber (X := X) (s.extract i (i + n)) hsz0
      rw [e0] at hnum
      refine WP.asrt (by simp only [Option.getD_some]; omega) ?_
      refine WP.use1 (show Does X _ [vS (s.extract ((i : Int)).toNat (((i + n : Nat) : Int)).toNat)] [] _ by rw [ei, en]; exact hnum) ?_
      unfold numR
      cases hn : numOk ((c :: r).take n) with
      | false =>
        refine WP.iteT (by simp) ?_
        exact WP.leaf (by simp [tokR])
      | true =>
        refine WP.iteF (by simp) ?_
        cases hd : (c :: r).drop n with
        | nil =>
          have := drop_none hd
          refine WP.iteF (by simp; omega) ?_
          exact WP.leaf (by simp [headL, tokR])
        | cons d t =>
          obtain ⟨hbd, hid⟩ := bt_drop (s := s) (i := i + n) (c := d) (r := t) (by rw [← List.drop_drop, h]; exact hd)
          refine WP.iteT (by simp; omega) ?_
          refine WP.asrt (by omega) ?_
          refine WP.use1 (by rw [hbd]; exact rletter d) ?_
          by_cases h5 : isL d = true
          · refine WP.iteT h5 ?_
            exact WP.leaf (by simp [headL, h5, tokR])
          · refine WP.iteF (by simpa using h5) ?_
            exact WP.leaf (by simp [headL, h5, tokR])
    refine WP.iteF (by simpa using h2) ?_
    rw [if_neg h2]
    by_cases h3 : c.toNat = 34
    · refine WP.iteT (by rw [hb]; simp; omega) ?_
      rw [if_pos h3]
      refine WP.use1 (rquoted s hs i c r h) ?_
      cases hx : quo r with
      | none =>
        refine WP.iteT (by simp) ?_
        exact WP.leaf rfl
      | some z =>
        obtain ⟨t, n⟩ := z
        refine WP.iteF (by simp; omega) ?_
        exact WP.leaf rfl
    · refine WP.iteF (by rw [hb]; simp; omega) ?_
      rw [if_neg h3]
      refine WP.use1 (rsign s hs i c r h) ?_
      have hs2 := (sgn_le c r).2
      by_cases h4 : sgn (c :: r) = 0
      · refine WP.iteT (by simp; omega) ?_
        exact WP.leaf (by rw [if_pos h4]; rfl)
      · refine WP.iteF (by simp; omega) ?_
        refine WP.leaf ?_
        rw [if_neg h4, wrapI (by omega) (by omega)]
        rfl
end Go.Proofs.YtaddhpeainliiaaGreatDoor.Id
/-! ## DenNext -/
namespace Go.Proofs.YtaddhpeainliiaaGreatDoor.Id
open Go
set_option linter.unusedVariables false
set_option linter.unusedSimpArgs false
variable {X : Given}
theorem numOk_digit {l : List UInt8} (h : numOk l = true) : l ≠ [] := by
  intro hl; subst hl; simp [numOk, lead0] at h
theorem tok_ok (l : List UInt8) (h : (tok l).2.2 = 0) : 1 ≤ (tok l).2.1 ∧ 1 ≤ (tok l).1 ∧ (tok l).1 ≤ 5 := by
  cases l with
  | nil => simp [tok] at h
  | cons c r =>
    change (tokC c r).2.2 = 0 at h
    show 1 ≤ (tokC c r).2.1 ∧ 1 ≤ (tokC c r).1 ∧ (tokC c r).1 ≤ 5
    have hw : isL c = true → 1 ≤ ((c :: r).takeWhile isW).length := fun h1 => by
      rw [List.takeWhile_cons, if_pos (by unfold isW; rw [h1]; rfl)]; simp
    have hd : isD c = true → 1 ≤ ((c :: r).takeWhile isD).length := fun h1 => by
      rw [List.takeWhile_cons, if_pos h1]; simp
    unfold tokC at h ⊢
    by_cases h1 : isL c = true
    · rw [if_pos h1] at h ⊢
      by_cases h2 : 32 < ((c :: r).takeWhile isW).length
      · rw [if_pos h2] at h; cases h
      rw [if_neg h2] at h ⊢
      by_cases h3 : (c :: r).take ((c :: r).takeWhile isW).length ∈ keyTexts
      · rw [if_pos h3]; exact ⟨hw h1, by simp, by simp⟩
      · rw [if_neg h3]; exact ⟨hw h1, by simp, by simp⟩
    rw [if_neg h1] at h ⊢
    by_cases h2 : isD c = true
    · rw [if_pos h2] at h ⊢
      by_cases h3 : (numOk ((c :: r).take ((c :: r).takeWhile isD).length) && !headL ((c :: r).drop ((c :: r).takeWhile isD).length)) = true
      · rw [if_pos h3]; exact ⟨hd h2, by simp, by simp⟩
      · rw [if_neg h3] at h; cases h
    rw [if_neg h2] at h ⊢
    by_cases h3 : c.toNat = 34
    · rw [if_pos h3] at h ⊢
      cases hq : quo r with
      | none => rw [hq] at h; cases h
      | some z =>
        obtain ⟨t, n⟩ := z
        have := quo_le hq
        exact ⟨by simp only; omega, by simp, by simp⟩
    rw [if_neg h3] at h ⊢
    by_cases h4 : sgn (c :: r) = 0
    · rw [if_pos h4] at h; cases h
    · rw [if_neg h4]; exact ⟨by simp only; omega, by simp, by simp⟩
/-- kind, from, to, errno -/
def nx (l : List UInt8) (i : Nat) : Nat × Nat × Nat × Nat :=
  if i + gapL false (l.drop i) = l.length then (0, l.length, l.length, 0)
  else if (tok (l.drop (i + gapL false (l.drop i)))).2.2 = 0 then ((tok (l.drop (i + gapL false (l.drop i)))).1, i + gapL false (l.drop i), i + gapL false (l.drop i) + (tok (l.drop (i + gapL false (l.drop i)))).2.1, 0)
  else (0, i + gapL false (l.drop i), 0, (tok (l.drop (i + gapL false (l.drop i)))).2.2)
/-- a token that was found: where -/
theorem nx_adv (l : List UInt8) (i : Nat) (hi : i ≤ l.length) (he : (nx l i).2.2.2 = 0) (hk : (nx l i).1 ≠ 0) :
    i ≤ (nx l i).2.1 ∧ (nx l i).2.1 < (nx l i).2.2.1 ∧ (nx l i).2.2.1 ≤ l.length := by
  unfold nx at *
  have hg := gapL_le (l.drop i) false
  rw [List.length_drop] at hg
  generalize hgg : i + gapL false (l.drop i) = g at *
  by_cases h : g = l.length
  · rw [if_pos h] at hk; exact absurd rfl hk
  rw [if_neg h] at he hk ⊢
  by_cases h2 : (tok (l.drop g)).2.2 = 0
  · rw [if_pos h2]
    have := tok_ok _ h2
    have h3 := tok_le (l.drop g)
    rw [List.length_drop] at h3
    simp only
    omega
  · rw [if_neg h2] at hk; exact absurd rfl hk
theorem nx_from (l : List UInt8) (i : Nat) (hi : i ≤ l.length) : (nx l i).2.1 ≤ l.length := by
  unfold nx
  have hg := gapL_le (l.drop i) false
  rw [List.length_drop] at hg
  split
  · exact Nat.le_refl _
  · split <;> (simp only; omega)
def nxI (x : Nat × Nat × Nat × Nat) : Out := tkV x.1 x.2.1 x.2.2.1 x.2.2.2
theorem gap_le (s : ByteArray) (i : Nat) (hi : i ≤ s.size) : i + gapL false ((L s).drop i) ≤ s.size := by
  have := gapL_le ((L s).drop i) false
  rw [List.length_drop, L_length] at this; omega
/-- the next token of a source, by program -/
theorem lnext (hX : LibX X) (s : ByteArray) (hs : s.size ≤ 65536) (i : Nat) (hi : i ≤ s.size) : Does X 63 [vS s, vI i] [] (nxI (nx (L s) i)) := by
  refine DoesQ.eq (DoesQ.of Tryz.func63 (by kernel_rfl) ?_)
  refine WP.iteF (decide_eq_false (by omega)) ?_
  refine WP.iteF (decide_eq_false (by omega)) ?_
  refine WP.iteF (decide_eq_false (by omega)) ?_
  refine WP.use1 (gap_fn hX s (by omega) i hi) ?_
  have hg := gap_le s i hi
  unfold nx
  generalize i + gapL false ((L s).drop i) = g at *
  rw [L_length]
  by_cases h4 : g = s.size
  · refine WP.iteT (decide_eq_true (by omega)) ?_
    rw [if_pos h4]
    exact WP.leaf (by subst h4; rfl)
  refine WP.iteF (decide_eq_false (by omega)) ?_
  rw [if_neg h4]
  have eg : ((g : Int)).toNat = g := by omega
  have e0 : L (s.extract g s.size) = (L s).drop g := by rw [L_extract, List.take_of_length_le]; rw [List.length_drop, L_length]; omega
  have hsz0 : (s.extract g s.size).size ≤ 1048576 := by rw [size_eq_L, e0, List.length_drop, L_length]; omega
  refine WP.asrt (by simp only [Option.getD_none, Option.getD_some]; omega) ?_
  have ht := ltoken hX (s.extract g s.size) hsz0 (by rw [e0]; intro hx; have := drop_none hx; rw [L_length] at this; omega)
  rw [e0] at ht
  refine WP.use1 (show Does X _ [vS (s.extract ((g : Int)).toNat ((s.size : Int)).toNat)] [] _ by rw [eg, show ((s.size : Int)).toNat = s.size by omega]; exact ht) ?_
  have hle : (tok ((L s).drop g)).2.1 ≤ 4000000 := by
    have := tok_le ((L s).drop g)
    rw [List.length_drop, L_length] at this; omega
  generalize tok ((L s).drop g) = x at *
  obtain ⟨x1, x2, x3⟩ := x
  simp only at hle ⊢
  by_cases h5 : x3 = 0
  · refine WP.iteF (by simp [h5]) ?_
    refine WP.leaf ?_
    rw [if_pos h5, wrapI (by dsimp only; omega) (by dsimp only; omega)]
    rfl
  · refine WP.iteT (by simp; omega) ?_
    exact WP.leaf (by rw [if_neg h5]; rfl)
theorem lnext_long (hX : LibX X) (s : ByteArray) (hs : 65536 < s.size) (i : Int) : Does X 63 [vS s, vI i] [] (tkV 0 0 0 3) := by
  refine DoesQ.eq (DoesQ.of Tryz.func63 (by kernel_rfl) ?_)
  refine WP.iteT (decide_eq_true (by omega)) ?_
  exact WP.leaf rfl
theorem rtok_nx (s : ByteArray) (hs : s.size ≤ 1048576) (i : Nat) (hi : i ≤ s.size) : Does X 163 [vS s, vI ((i + gapL false ((L s).drop i) : Nat) : Int)] [] (nxI (nx (L s) i)) := by
  have hg := gap_le s i hi
  unfold nx
  generalize i + gapL false ((L s).drop i) = g at *
  rw [L_length]
  by_cases h4 : g = s.size
  · refine DoesQ.eq (DoesQ.of Tryz.func163 (by kernel_rfl) ?_)
    refine WP.iteT (decide_eq_true (by omega)) ?_
    rw [if_pos h4]
    exact WP.leaf (by subst h4; rfl)
  · have := rtoken (X := X) s hs g (by omega)
    rw [if_neg h4]
    unfold tokR at this
    by_cases h5 : (tok ((L s).drop g)).2.2 = 0
    · rw [if_pos h5] at this ⊢; exact this
    · rw [if_neg h5] at this ⊢; exact this
/-! ### just one token -/
def just (l : List UInt8) (k : Nat) : Bool := decide (l ≠ []) && decide ((tok l).2.2 = 0) && decide ((tok l).1 = k) && decide ((tok l).2.1 = l.length)
theorem ljust (hX : LibX X) (s : ByteArray) (hs : s.size ≤ 1048576) (m : Nat) : Does X 97 [vS s, vI m] [] (.ret (vB (just (L s) m)) []) := by
  refine DoesQ.eq (DoesQ.of Tryz.func97 (by kernel_rfl) ?_)
  unfold just
  by_cases h : L s = []
  · have h0 : s = ⟨#[]⟩ := L_inj h
    refine WP.iteT (decide_eq_true h0) ?_
    exact WP.leaf (by rw [h]; simp)
  have h0 : ¬ s = ⟨#[]⟩ := fun e => h (by rw [e])
  refine WP.iteF (decide_eq_false h0) ?_
  refine WP.use1 (ltoken hX s hs h) ?_
  rw [L_length]
  generalize tok (L s) = x
  obtain ⟨x1, x2, x3⟩ := x
  simp only
  by_cases h1 : x3 = 0
  · refine WP.iteT (decide_eq_true (by dsimp only; omega)) ?_
    by_cases h2 : x1 = m
    · refine WP.iteT (decide_eq_true (by dsimp only; omega)) ?_
      refine WP.leaf ?_
      rw [decide_eq_true h, decide_eq_true h1, decide_eq_true h2]
      have : ((x2 : Int) = (s.size : Int)) ↔ x2 = s.size := by omega
      simp [this]
    · refine WP.iteF (decide_eq_false (by dsimp only; omega)) ?_
      exact WP.leaf (by simp [h2])
  · refine WP.iteF (decide_eq_false (by dsimp only; omega)) ?_
    exact WP.leaf (by simp [h1])
def isWord (s : ByteArray) : Bool := just (L s) 1
theorem lword (hX : LibX X) (s : ByteArray) (hs : s.size ≤ 1048576) : Does X 60 [vS s] [] (.ret (vB (isWord s)) []) := by
  refine DoesQ.eq (DoesQ.of Tryz.func60 (by kernel_rfl) ?_)
  refine WP.use1 (ljust hX s hs 1) ?_
  exact WP.leaf rfl
end Go.Proofs.YtaddhpeainliiaaGreatDoor.Id
/-! ## DenCut -/
namespace Go.Proofs.YtaddhpeainliiaaGreatDoor.Id
open Go
set_option linter.unusedVariables false
set_option linter.unusedSimpArgs false
theorem tw_cut (p : UInt8 → Bool) : ∀ (l : List UInt8) (m : Nat), (l.takeWhile p).length ≤ m → (l.take m).takeWhile p = l.takeWhile p
  | [], m, _ => by simp
  | c :: r, 0, h => by
    rw [List.takeWhile_cons] at h ⊢
    cases hc : p c with
    | true => rw [hc] at h; simp at h
    | false => simp
  | c :: r, m + 1, h => by
    rw [List.take_succ_cons, List.takeWhile_cons, List.takeWhile_cons]
    rw [List.takeWhile_cons] at h
    cases hc : p c with
    | true =>
      rw [hc] at h
      simp only [if_true, List.length_cons] at h
      rw [if_pos rfl, if_pos rfl, tw_cut p r m (by omega)]
    | false => rfl
theorem pc_cut {l : List UInt8} {b : UInt8} {n m : Nat} (h : pc l = some (b, n)) (hm : n ≤ m) : pc (l.take m) = some (b, n) := by
  cases l with
  | nil => cases h
  | cons c r =>
    have hp := (pc_pos h).1
    obtain ⟨m, rfl⟩ : ∃ m', m = m' + 1 := ⟨m - 1, by omega⟩
    rw [List.take_succ_cons]
    simp only [pc] at h ⊢
    by_cases h1 : c.toNat = 92
    · rw [if_pos h1] at h ⊢
      cases r with
      | nil => cases h
      | cons d r =>
        simp only at h
        by_cases d1 : d.toNat = 110
        · rw [if_pos d1] at h
          have h0 := h
          injection h with h'; injection h' with _ h3
          obtain ⟨m, rfl⟩ : ∃ m', m = m' + 1 := ⟨m - 1, by omega⟩
          rw [List.take_succ_cons]; simp only; rw [if_pos d1]; exact h0
        rw [if_neg d1] at h
        by_cases d2 : d.toNat = 116
        · rw [if_pos d2] at h
          have h0 := h
          injection h with h'; injection h' with _ h3
          obtain ⟨m, rfl⟩ : ∃ m', m = m' + 1 := ⟨m - 1, by omega⟩
          rw [List.take_succ_cons]; simp only; rw [if_neg d1, if_pos d2]; exact h0
        rw [if_neg d2] at h
        by_cases d3 : d.toNat = 34 ∨ d.toNat = 92
        · rw [if_pos d3] at h
          have h0 := h
          injection h with h'; injection h' with _ h3
          obtain ⟨m, rfl⟩ : ∃ m', m = m' + 1 := ⟨m - 1, by omega⟩
          rw [List.take_succ_cons]; simp only; rw [if_neg d1, if_neg d2, if_pos d3]; exact h0
        rw [if_neg d3] at h
        by_cases d4 : d.toNat = 120
        · rw [if_pos d4] at h
          match r, h with
          | [], h => cases h
          | [a], h => cases h
          | a :: b' :: r, h =>
            have h0 := h
            simp only at h
            split at h
            · injection h with h'; injection h' with _ h3
              obtain ⟨m, rfl⟩ : ∃ m', m = m' + 3 := ⟨m - 3, by omega⟩
              rw [List.take_succ_cons, List.take_succ_cons, List.take_succ_cons]
              simp only
              rw [if_neg d1, if_neg d2, if_neg d3, if_pos d4]; exact h0
            · cases h
        · rw [if_neg d4] at h; cases h
    · rw [if_neg h1] at h ⊢; exact h
theorem ql_cut : ∀ (f : Nat) (l t : List UInt8) (q m : Nat), ql f l = some (t, q) → q ≤ m → ql f (l.take m) = some (t, q)
  | 0, l, t, q, m, h, _ => by cases h
  | f + 1, [], t, q, m, h, _ => by cases h
  | f + 1, c :: r, t, q, m, h, hm => by
    have hq := ql_le _ _ _ _ h
    obtain ⟨m, rfl⟩ : ∃ m', m = m' + 1 := ⟨m - 1, by omega⟩
    rw [List.take_succ_cons]
    unfold ql at h ⊢
    by_cases h1 : c.toNat = 34
    · rw [if_pos h1] at h ⊢; exact h
    rw [if_neg h1] at h ⊢
    cases hp : pc (c :: r) with
    | none => rw [hp] at h; cases h
    | some z =>
      obtain ⟨b, n⟩ := z
      rw [hp] at h
      simp only at h
      cases hx : ql f ((c :: r).drop n) with
      | none => rw [hx] at h; cases h
      | some z =>
        obtain ⟨t', q'⟩ := z
        rw [hx] at h
        simp only at h
        injection h with h'; injection h' with h1' h2'
        have hp' := pc_cut (m := m + 1) hp (by omega)
        rw [List.take_succ_cons] at hp'
        rw [hp']
        simp only
        have ih := ql_cut f _ t' q' (m + 1 - n) hx (by omega)
        have e : (c :: r.take m).drop n = ((c :: r).drop n).take (m + 1 - n) := by
          rw [← List.take_succ_cons, List.drop_take]
        rw [e, ih]
        simp only
        rw [h1', h2']
theorem quo_cut {r t : List UInt8} {n m : Nat} (h : quo r = some (t, n)) (hm : n ≤ m + 1) : quo (r.take m) = some (t, n) := by
  unfold quo at h ⊢
  cases hx : ql (r.length + 1) r with
  | none => rw [hx] at h; cases h
  | some z =>
    obtain ⟨t', q⟩ := z
    rw [hx] at h
    simp only at h
    split at h
    · rename_i hle
      injection h with h'; injection h' with h1 h2
      have hc := ql_cut _ _ _ _ m hx (by omega)
      rw [ql_fuel (r.length + 1) ((r.take m).length + 1) (r.take m) (by rw [List.length_take]; omega) (by omega)] at hc
      rw [hc]
      simp only
      rw [if_pos hle, h1, h2]
    · cases h
theorem tok_cut (l : List UInt8) (m : Nat) (h : (tok l).2.2 = 0) (hm : (tok l).2.1 ≤ m) : tok (l.take m) = tok l := by
  have hpos := (tok_ok l h).1
  cases l with
  | nil => cases h
  | cons c r =>
    obtain ⟨m, rfl⟩ : ∃ m', m = m' + 1 := ⟨m - 1, by omega⟩
    rw [List.take_succ_cons]
    show tokC c (r.take m) = tokC c r
    change (tokC c r).2.2 = 0 at h
    change (tokC c r).2.1 ≤ m + 1 at hm
    have et : c :: r.take m = (c :: r).take (m + 1) := by rw [List.take_succ_cons]
    unfold tokC at h hm ⊢
    rw [et]
    by_cases h1 : isL c = true
    · rw [if_pos h1] at h hm ⊢
      rw [if_pos h1]
      have hle : ((c :: r).takeWhile isW).length ≤ m + 1 := by
        by_cases h2 : 32 < ((c :: r).takeWhile isW).length
        · rw [if_pos h2] at h; cases h
        rw [if_neg h2] at hm
        split at hm <;> exact hm
      rw [tw_cut isW _ _ hle, List.take_take, Nat.min_eq_left hle]
    rw [if_neg h1] at h hm ⊢
    rw [if_neg h1]
    by_cases h2 : isD c = true
    · rw [if_pos h2] at h hm ⊢
      rw [if_pos h2]
      by_cases h3 : (numOk ((c :: r).take ((c :: r).takeWhile isD).length) && !headL ((c :: r).drop ((c :: r).takeWhile isD).length)) = true
      · rw [if_pos h3] at hm ⊢
        simp only at hm
        rw [tw_cut isD _ _ hm, List.take_take, Nat.min_eq_left hm]
        generalize ((c :: r).takeWhile isD).length = n at *
        rw [Bool.and_eq_true] at h3
        have hh : headL (((c :: r).take (m + 1)).drop n) = false := by
          rw [List.drop_take]
          have h4 := h3.2
          cases hd : (c :: r).drop n with
          | nil => simp [headL]
          | cons d u =>
            rw [hd] at h4
            simp only [headL, Bool.not_eq_true'] at h4
            cases m + 1 - n with
            | zero => simp [headL]
            | succ q => rw [List.take_succ_cons]; simp only [headL]; exact h4
        rw [hh, h3.1]; rfl
      · rw [if_neg h3] at h; cases h
    rw [if_neg h2] at h hm ⊢
    rw [if_neg h2]
    by_cases h3 : c.toNat = 34
    · rw [if_pos h3] at h hm ⊢
      rw [if_pos h3]
      cases hq : quo r with
      | none => rw [hq] at h; cases h
      | some z =>
        obtain ⟨t, n⟩ := z
        rw [hq] at hm
        rw [quo_cut hq hm]
    rw [if_neg h3] at h hm ⊢
    rw [if_neg h3]
    by_cases h4 : sgn (c :: r) = 0
    · rw [if_pos h4] at h; cases h
    rw [if_neg h4] at hm ⊢
    have e : sgn ((c :: r).take (m + 1)) = sgn (c :: r) := by
      simp only at hm
      unfold sgn at hm h4 ⊢
      by_cases ht : (c :: r).take 2 ∈ twoSigns
      · rw [if_pos ht] at hm ⊢
        rw [List.take_take, Nat.min_eq_left hm, if_pos ht]
      · rw [if_neg ht] at hm h4 ⊢
        have ht2 : ¬ ((c :: r).take (m + 1)).take 2 ∈ twoSigns := by
          rw [List.take_take]
          intro hx
          have := two_len _ hx
          rw [List.length_take] at this
          have hmin : min 2 (m + 1) = 2 := by omega
          rw [hmin] at hx; exact ht hx
        rw [if_neg ht2, List.take_succ_cons]
    rw [e, if_neg h4]

/-! ### what the tokens are -/
theorem nx_fr (l : List UInt8) (i : Nat) : (nx l i).2.1 = i + gapL false (l.drop i) := by
  unfold nx
  split
  · rename_i h; exact h.symm
  · split <;> rfl
theorem nx_end (l : List UInt8) (i : Nat) (he : (nx l i).2.2.2 = 0) (hk : (nx l i).1 = 0) : (nx l i).2.1 = l.length ∧ (nx l i).2.2.1 = l.length := by
  unfold nx at *
  by_cases h : i + gapL false (l.drop i) = l.length
  · rw [if_pos h]; exact ⟨rfl, rfl⟩
  rw [if_neg h] at he hk
  by_cases h2 : (tok (l.drop (i + gapL false (l.drop i)))).2.2 = 0
  · rw [if_pos h2] at hk
    have := (tok_ok _ h2).2.1
    simp only at hk; omega
  · rw [if_neg h2] at he; exact absurd he h2
theorem nx_tok (l : List UInt8) (i : Nat) (he : (nx l i).2.2.2 = 0) (hk : (nx l i).1 ≠ 0) :
    gapL false (l.drop (nx l i).2.1) = 0 ∧ (nx l i).2.1 < (nx l i).2.2.1 ∧ tok (l.drop (nx l i).2.1) = ((nx l i).1, (nx l i).2.2.1 - (nx l i).2.1, 0) := by
  have hga := gapL_after (l.drop i) false
  rw [List.drop_drop] at hga
  unfold nx at *
  generalize i + gapL false (l.drop i) = g at *
  by_cases h : g = l.length
  · rw [if_pos h] at hk; exact absurd rfl hk
  rw [if_neg h] at he hk ⊢
  by_cases h2 : (tok (l.drop g)).2.2 = 0
  · rw [if_pos h2]
    have h3 := (tok_ok _ h2).1
    refine ⟨hga, by simp only; omega, ?_⟩
    simp only
    generalize tok (l.drop g) = z at *
    obtain ⟨z1, z2, z3⟩ := z
    simp only at h2 h3 ⊢
    subst h2
    simp
  · rw [if_neg h2] at he; exact absurd he h2
theorem nx_cut (l : List UInt8) (i p : Nat) (hp : p ≤ l.length) (he : (nx l i).2.2.2 = 0) (hk : (nx l i).1 ≠ 0) (hb : (nx l i).2.2.1 ≤ p) (hi : i ≤ l.length) : nx (l.take p) i = nx l i := by
  have h1 := nx_fr l i
  obtain ⟨h2, h3, h4⟩ := nx_tok l i he hk
  have hlen : (l.take p).length = p := by rw [List.length_take]; omega
  have hg : gapL false ((l.take p).drop i) = gapL false (l.drop i) := by
    rw [List.drop_take]; exact gapL_cut _ _ _ (by omega)
  have ht : tok ((l.take p).drop (i + gapL false (l.drop i))) = tok (l.drop (i + gapL false (l.drop i))) := by
    rw [← h1, List.drop_take]
    exact tok_cut _ _ (by rw [h4]) (by rw [h4]; simp only; omega)
  have hne : ¬ i + gapL false (l.drop i) = l.length := by
    have := (nx_adv l i hi he hk).2.2; omega
  have : ¬ i + gapL false (l.drop i) = p := by omega
  unfold nx
  rw [hg, ht, hlen, if_neg hne, if_neg this]
theorem tok_self (l : List UInt8) (h : (tok l).2.2 = 0) : tok (l.take (tok l).2.1) = tok l := tok_cut l _ h (Nat.le_refl _)
end Go.Proofs.YtaddhpeainliiaaGreatDoor.Id
