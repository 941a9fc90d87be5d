import Derived.Test.YtifachjefpcgcaaDoorEScanTok
namespace Go.Proofs.YtifachjefpcgcaaDoor.Pure
open Go.RowKit Go.Proofs.YtifachjefpcgcaaDoor.P Go.Proofs.YtifachjefpcgcaaDoor.Base Go.Proofs.YtifachjefpcgcaaDoorW.PrintWords Go.Proofs.YtifachjefpcgcaaDoorW.PrintLast Go.Proofs.YtifachjefpcgcaaDoorW.PrintMore
set_option linter.unusedVariables false
set_option linter.unusedSimpArgs false
abbrev SI := S35
def incs : Nat → List UInt8 → Nat → List SI × Nat × Nat × Nat
  | 0, _, i => ([], i, 0, 0)
  | f + 1, l, i => if begins l i = true then
      if (stepE l i).1 ≠ 0 then ([], 0, (stepE l i).1, (stepE l i).2.1)
      else if (incs f l (stepE l i).2.2).2.2.1 ≠ 0 then ([], 0, (incs f l (stepE l i).2.2).2.2)
      else ((⟨stepP l i, stepN l i, (fr l i : Nat)⟩ : SI) :: (incs f l (stepE l i).2.2).1, (incs f l (stepE l i).2.2).2)
    else ([], i, 0, 0)
def resF (acc : List SI) (x : List SI × Nat × Nat × Nat) : List SI × Int × Int × Int :=
  if x.2.2.1 ≠ 0 then ([], 0, (x.2.2.1 : Nat), (x.2.2.2 : Nat)) else (acc ++ x.1, (x.2.1 : Nat), 0, 0)
def foundT (s : ByteArray) : List SI × Nat × Nat × Nat := if s.size > 65536 then ([], 0, 3, 0) else incs (s.size + 1) (L s) 0
theorem resF_step (acc : List SI) (f : Nat) (l : List UInt8) (i : Nat) (hb : begins l i = true) (he : (stepE l i).1 = 0) :
    resF acc (incs (f + 1) l i) = resF (acc ++ [(⟨stepP l i, stepN l i, (fr l i : Nat)⟩ : SI)]) (incs f l (stepE l i).2.2) := by
  conv => lhs; unfold incs
  rw [if_pos hb, if_neg (by omega)]
  unfold resF
  by_cases h : (incs f l (stepE l i).2.2).2.2.1 ≠ 0
  · rw [if_pos h, if_pos h, if_pos h]
  · rw [if_neg h, if_neg h, if_neg h]; simp
theorem resF_none (acc : List SI) (f : Nat) (l : List UInt8) (i : Nat) (hb : ¬ begins l i = true) : resF acc (incs (f + 1) l i) = (acc, ((i : Nat) : Int), (0 : Int), (0 : Int)) := by
  unfold incs; rw [if_neg hb]; unfold resF; rw [if_neg (by simp)]; simp
theorem resF_bad (acc : List SI) (f : Nat) (l : List UInt8) (i : Nat) (hb : begins l i = true) (he : (stepE l i).1 ≠ 0) : resF acc (incs (f + 1) l i) = (([] : List SI), (0 : Int), (((stepE l i).1 : Nat) : Int), (((stepE l i).2.1 : Nat) : Int)) := by
  unfold incs; rw [if_pos hb, if_pos he]; unfold resF; rw [if_pos (by exact he)]
theorem resF_bad2 (acc : List SI) (f : Nat) (l : List UInt8) (i e p q : Nat) (hb : begins l i = true) (hst : stepE l i = (e, p, q)) (he : e ≠ 0) : resF acc (incs (f + 1) l i) = (([] : List SI), (0 : Int), ((e : Nat) : Int), ((p : Nat) : Int)) := by
  have := resF_bad acc f l i hb (by rw [hst]; exact he)
  rw [hst] at this; exact this
theorem resF_step2 (acc : List SI) (f : Nat) (l : List UInt8) (i q : Nat) (hb : begins l i = true) (hst : stepE l i = (0, 0, q)) :
    resF acc (incs (f + 1) l i) = resF (acc ++ [(⟨stepP l i, stepN l i, (fr l i : Nat)⟩ : SI)]) (incs f l q) := by
  have := resF_step acc f l i hb (by rw [hst])
  rw [hst] at this; exact this
theorem stepE_ok2 {l : List UInt8} {i q : Nat} (hi : i ≤ l.length) (hb : begins l i = true) (hst : stepE l i = (0, 0, q)) : i < q ∧ q ≤ l.length := by
  have := stepE_ok hi hb (by rw [hst])
  rw [hst] at this; exact this
theorem nx_bd (l : List UInt8) (i : Nat) (hi : i ≤ l.length) (he : (nx l i).2.2.2 = 0) : (nx l i).2.1 ≤ (nx l i).2.2.1 ∧ (nx l i).2.2.1 ≤ l.length := by
  by_cases hk : (nx l i).1 = 0
  · have := nx_end l i he hk; omega
  · have := nx_adv l i hi he hk; have := nx_tok l i he hk; omega
theorem lnx (s : ByteArray) (hs : s.size ≤ 65536) (i : Nat) (hi : i ≤ s.size) : Ev (fun k => lex_Next.f k s i) (cast4 (nx (L s) i)) := by
  refine (lnext s (by omega) i).eq ?_
  unfold nxtI
  rw [if_neg (by omega), if_neg (by omega), nxt_nx]; rfl
theorem rnx (s : ByteArray) (hs : s.size ≤ 65536) (i : Nat) (hi : i ≤ s.size) : Ev (fun k => treadleref12_Next.f k s i) (cast4 (nx (L s) i)) := by
  refine (rnext s (by omega) i).eq ?_
  unfold nxtI
  rw [if_neg (by omega), if_neg (by omega), nxt_nx]; rfl
theorem ext_tx (s : ByteArray) (i : Nat) : s.extract ((nx (L s) i).2.1 : Int).toNat ((nx (L s) i).2.2.1 : Int).toNat = mkB (tx (L s) i) := by
  apply L_inj
  rw [L_extract, L_mkB]; simp only [Int.toNat_natCast]; rfl
def nextR (s : ByteArray) (i : Nat) : Bool × Int × Int × Int × Int × Int × ByteArray × ByteArray × Int :=
  if (nx (L s) i).2.2.2 = 0 then (false, 0, 0, ((nx (L s) i).1 : Nat), ((nx (L s) i).2.1 : Nat), ((nx (L s) i).2.2.1 : Nat), mkB (tx (L s) i), s, ((nx (L s) i).2.2.1 : Nat))
  else (true, ((nx (L s) i).2.2.2 : Nat), ((nx (L s) i).2.1 : Nat), 0, 0, 0, ⟨#[]⟩, s, (i : Nat))
theorem lrnext (s : ByteArray) (hs : s.size ≤ 65536) (i : Nat) (hi : i ≤ s.size) : Ev (fun k => scan_reader_next.f k s i) (nextR s i) := by
  unfold scan_reader_next.f nextR
  refine Ev.bind (lnx s hs i hi) ?_
  have hL : (L s).length = s.size := L_length s
  simp only [cast4]
  by_cases he : (nx (L s) i).2.2.2 = 0
  · have hb := nx_bd (L s) i (by omega) he
    rw [if_pos he]
    refine Ev.ite_pos (by omega) (Ev.ite_pos (by omega) (Ev.ite_pos (by omega) (Ev.ite_pos (by omega) (Ev.some_ ?_))))
    rw [ext_tx]
  · rw [if_neg he]
    exact Ev.ite_neg (by omega) (Ev.some_ rfl)
def atR (s : ByteArray) (i : Nat) : Int := if (nx (L s) i).2.2.2 = 0 then ((tt (L s) i : Nat) : Int) else ((i : Nat) : Int)
def wantR (s : ByteArray) (i p : Nat) : Bool × Int × Int × ByteArray × ByteArray × Int :=
  if wE (L s) i p = 0 then (false, 0, 0, mkB (tx (L s) i), s, (tt (L s) i : Nat))
  else (true, (wE (L s) i p : Nat), (fr (L s) i : Nat), ⟨#[]⟩, s, atR s i)
def kOf (p : Nat) : Nat := if p = 1 then 3 else if p = 2 then 4 else if p = 3 then 1 else 5
def tOf (p : Nat) : List UInt8 := if p = 2 then asT else if p = 4 then semT else []
theorem fit_iff (l : List UInt8) (i p : Nat) (hi : i ≤ l.length) (he : (nx l i).2.2.2 = 0) (h1 : 1 ≤ p) (h4 : p ≤ 4) : fit p (tx l i) = true ↔ ((nx l i).1 = kOf p ∧ (tOf p = [] ∨ tx l i = tOf p)) := by
  have hp : p = 1 ∨ p = 2 ∨ p = 3 ∨ p = 4 := by omega
  rcases hp with rfl | rfl | rfl | rfl
  · have := kind_text l i hi he
    have hf : fit 1 (tx l i) = true ↔ (textR (tx l i)).2 = 0 := by unfold fit; rw [if_pos rfl]; exact decide_eq_true_iff
    rw [hf]
    exact ⟨fun h => ⟨this.mpr h, Or.inl rfl⟩, fun h => this.mp h.1⟩
  · have := kind_eq l i 4 asT hi he (by omega) (by rw [tok_as]) (by decide)
    have hf : fit 2 (tx l i) = true ↔ tx l i = asT := by unfold fit; rw [if_neg (by decide), if_pos rfl]; exact decide_eq_true_iff
    rw [hf]
    refine ⟨fun h => ⟨(this.mpr h).1, Or.inr h⟩, fun h => ?_⟩
    rcases h.2 with h2 | h2
    · exact absurd h2 (by decide)
    · exact h2
  · have := kind_word l i hi he
    have hf : fit 3 (tx l i) = (nameOk (tx l i) && !decide (tx l i ∈ keyTexts)) := by unfold fit; rw [if_neg (by decide), if_neg (by decide), if_pos rfl]
    rw [hf]
    exact ⟨fun h => ⟨this.mpr h, Or.inl rfl⟩, fun h => this.mp h.1⟩
  · have := kind_eq l i 5 semT hi he (by omega) (by rw [tok_sem]) (by decide)
    have hf : fit 4 (tx l i) = true ↔ tx l i = semT := by unfold fit; rw [if_neg (by decide), if_neg (by decide), if_neg (by decide)]; exact decide_eq_true_iff
    rw [hf]
    refine ⟨fun h => ⟨(this.mpr h).1, Or.inr h⟩, fun h => ?_⟩
    rcases h.2 with h2 | h2
    · exact absurd h2 (by decide)
    · exact h2
theorem lwant (s : ByteArray) (hs : s.size ≤ 65536) (i p : Nat) (hi : i ≤ s.size) (h1 : 1 ≤ p) (h4 : p ≤ 4) : Ev (fun k => scan_reader_want.f k s i (kOf p : Nat) (mkB (tOf p))) (wantR s i p) := by
  unfold scan_reader_want.f
  refine Ev.bind (lrnext s hs i hi) ?_
  have hL : (L s).length = s.size := L_length s
  unfold nextR wantR
  by_cases he : (nx (L s) i).2.2.2 = 0
  · rw [if_pos he]
    have hf := fit_iff (L s) i p (by omega) he h1 h4
    have hw : wE (L s) i p = if fit p (tx (L s) i) = true then 0 else 130 := by unfold wE; rw [if_neg (by omega)]
    simp only
    refine Ev.ite_neg (by simp) ?_
    have bad : ¬ fit p (tx (L s) i) = true → (true, (130 : Int), ((nx (L s) i).2.1 : Int), (⟨#[]⟩ : ByteArray), s, ((nx (L s) i).2.2.1 : Int)) = (if wE (L s) i p = 0 then (false, 0, 0, mkB (tx (L s) i), s, (tt (L s) i : Int)) else (true, (wE (L s) i p : Int), (fr (L s) i : Int), (⟨#[]⟩ : ByteArray), s, atR s i)) := by
      intro h; unfold atR; rw [hw, if_neg h, if_neg (by omega), if_pos he]; rfl
    have good : fit p (tx (L s) i) = true → (false, (0 : Int), (0 : Int), mkB (tx (L s) i), s, ((nx (L s) i).2.2.1 : Int)) = (if wE (L s) i p = 0 then (false, 0, 0, mkB (tx (L s) i), s, (tt (L s) i : Int)) else (true, (wE (L s) i p : Int), (fr (L s) i : Int), (⟨#[]⟩ : ByteArray), s, atR s i)) := by
      intro h; rw [hw, if_pos h, if_pos rfl]; rfl
    by_cases hk : (nx (L s) i).1 = kOf p
    · refine Ev.ite_pos (by omega) ?_
      simp only [toList_L, L_mkB]
      by_cases ht : tOf p = []
      · exact Ev.ite_pos ht (Ev.some_ (good (hf.mpr ⟨hk, Or.inl ht⟩)))
      · refine Ev.ite_neg ht ?_
        by_cases hx : tx (L s) i = tOf p
        · exact Ev.ite_pos hx (Ev.some_ (good (hf.mpr ⟨hk, Or.inr hx⟩)))
        · refine Ev.ite_neg hx (Ev.some_ (bad (fun h => ?_)))
          rcases (hf.mp h).2 with h2 | h2
          · exact ht h2
          · exact hx h2
    · exact Ev.ite_neg (by omega) (Ev.some_ (bad (fun h => hk (hf.mp h).1)))
  · rw [if_neg he]
    have hw : wE (L s) i p = (nx (L s) i).2.2.2 := by unfold wE; rw [if_pos he]
    refine Ev.ite_pos (by rfl) (Ev.some_ ?_)
    unfold atR
    rw [hw, if_neg he, if_neg he]; rfl
theorem tx_size (s : ByteArray) (i : Nat) : (mkB (tx (L s) i)).size ≤ s.size := by
  rw [size_eq_L, L_mkB, size_eq_L]
  unfold tx
  rw [List.length_take, List.length_drop]; omega
theorem linclude (s : ByteArray) (hs : s.size ≤ 65536) (i : Nat) (hi : i ≤ s.size) :
    (¬ begins (L s) i = true → Ev (fun k => scan_reader_include.f k s i) (false, 0, 0, ⟨#[]⟩, ⟨#[]⟩, 0, false, s, (i : Nat))) ∧
    (begins (L s) i = true → ∀ e p q : Nat, stepE (L s) i = (e, p, q) → e ≠ 0 → ∃ j : Int, Ev (fun k => scan_reader_include.f k s i) (true, (e : Int), (p : Int), ⟨#[]⟩, ⟨#[]⟩, 0, false, s, j)) ∧
    (begins (L s) i = true → ∀ q : Nat, stepE (L s) i = (0, 0, q) → Ev (fun k => scan_reader_include.f k s i) (false, 0, 0, stepP (L s) i, stepN (L s) i, (fr (L s) i : Nat), true, s, (q : Int))) := by
  have hL : (L s).length = s.size := L_length s
  have jt : ∀ (b : Bool) (x y z : Int), b = true → Ev (fun k => scan_reader_include.j0 k b s i x y z) (false, 0, 0, ⟨#[]⟩, ⟨#[]⟩, 0, false, s, (i : Nat)) := fun b x y z hb =>
    Ev.step (fun k => scan_reader_include.j0.eq_2 _ _ _ _ _ _ k) (Ev.ite_pos hb (Ev.some_ rfl))
  refine ⟨fun hb => ?_, ?_⟩
  · unfold scan_reader_include.f
    refine Ev.bind (lnx s hs i hi) ?_
    simp only [cast4]
    by_cases he : (nx (L s) i).2.2.2 = 0
    · have hbd := nx_bd (L s) i (by omega) he
      refine Ev.ite_pos (by omega) ?_
      by_cases hk : (nx (L s) i).1 = 4
      · refine Ev.ite_pos (by omega) (Ev.ite_pos (by omega) (Ev.ite_pos (by omega) (Ev.ite_pos (by omega) ?_)))
        refine jt _ _ _ _ ?_
        rw [ext_tx, toList_L, L_mkB, bne_iff_ne]
        intro h
        apply hb
        unfold begins
        rw [decide_eq_true he, decide_eq_true hk, decide_eq_true (show tx (L s) i = incT from h)]; rfl
      · exact Ev.ite_neg (by omega) (jt _ _ _ _ rfl)
    · exact Ev.ite_neg (by omega) (jt _ _ _ _ rfl)
  suffices h : begins (L s) i = true → ∀ R, (Ev (fun k => (scan_reader_want.f k s (tt (L s) i : Nat) 3 ⟨#[]⟩).bind fun bt157 => (if bt157.1 = true then (some (true, bt157.2.1, bt157.2.2.1, (⟨#[]⟩ : ByteArray), (⟨#[]⟩ : ByteArray), (0 : Int), false, bt157.2.2.2.2.1, bt157.2.2.2.2.2)) else ((lex_Text.f k bt157.2.2.2.1).bind fun bt163 => ((scan_reader_want.f k bt157.2.2.2.2.1 bt157.2.2.2.2.2 4 (⟨#[97, 115]⟩ : ByteArray)).bind fun bt165 => (if bt165.1 = true then (some (true, bt165.2.1, bt165.2.2.1, (⟨#[]⟩ : ByteArray), (⟨#[]⟩ : ByteArray), (0 : Int), false, bt165.2.2.2.2.1, bt165.2.2.2.2.2)) else ((scan_reader_want.f k bt165.2.2.2.2.1 bt165.2.2.2.2.2 1 (⟨#[]⟩ : ByteArray)).bind fun bt171 => (if bt171.1 = true then (some (true, bt171.2.1, bt171.2.2.1, (⟨#[]⟩ : ByteArray), (⟨#[]⟩ : ByteArray), (0 : Int), false, bt171.2.2.2.2.1, bt171.2.2.2.2.2)) else ((scan_reader_want.f k bt171.2.2.2.2.1 bt171.2.2.2.2.2 5 (⟨#[59]⟩ : ByteArray)).bind fun bt177 => (if bt177.1 = true then (some (true, bt177.2.1, bt177.2.2.1, (⟨#[]⟩ : ByteArray), (⟨#[]⟩ : ByteArray), (0 : Int), false, bt177.2.2.2.2.1, bt177.2.2.2.2.2)) else (some (false, (0 : Int), (0 : Int), bt163.1, bt171.2.2.2.1, (fr (L s) i : Int), true, bt177.2.2.2.2.1, bt177.2.2.2.2.2))))))))))) R) → Ev (fun k => scan_reader_include.f k s i) R by
    obtain ⟨g1, g2⟩ : (begins (L s) i = true → tt (L s) i ≤ s.size) ∧ True := ⟨fun hb => by have := begins_adv (by omega) hb; omega, trivial⟩
    have w1 := fun (j : Nat) (hj : j ≤ s.size) => lwant s hs j 1 hj (by omega) (by omega)
    have w2 := fun (j : Nat) (hj : j ≤ s.size) => lwant s hs j 2 hj (by omega) (by omega)
    have w3 := fun (j : Nat) (hj : j ≤ s.size) => lwant s hs j 3 hj (by omega) (by omega)
    have w4 := fun (j : Nat) (hj : j ≤ s.size) => lwant s hs j 4 hj (by omega) (by omega)
    have tz : (mkB (tx (L s) (tt (L s) i))).size ≤ 1048576 := by have := tx_size s (tt (L s) i); omega
    rcases stepE_cases (L s) i with ⟨e1, hst⟩ | ⟨e1, e2, hst⟩ | ⟨e1, e2, e3, hst⟩ | ⟨e1, e2, e3, e4, hst⟩ | ⟨e1, e2, e3, e4, hst⟩
    · refine ⟨fun hb e p q he _ => ?_, fun hb q he => ?_⟩
      rotate_left
      · rw [hst, Prod.mk.injEq] at he; exact absurd he.1 e1
      rw [hst, Prod.mk.injEq, Prod.mk.injEq] at he
      obtain ⟨h1, h2, h3⟩ := he
      subst h1 h2
      refine ⟨atR s (tt (L s) i), h hb _ (Ev.bind (w1 _ (g1 hb)) ?_)⟩
      unfold wantR; rw [if_neg e1]
      refine Ev.ite_pos rfl (Ev.some_ ?_)
      dsimp only
    · refine ⟨fun hb e p q he _ => ?_, fun hb q he => ?_⟩
      rotate_left
      · rw [hst, Prod.mk.injEq] at he; exact absurd he.1 e2
      rw [hst, Prod.mk.injEq, Prod.mk.injEq] at he
      obtain ⟨h1, h2, h3⟩ := he
      subst h1 h2
      refine ⟨atR s (tt (L s) (tt (L s) i)), h hb _ (Ev.bind (w1 _ (g1 hb)) ?_)⟩
      have b1 := g1 hb
      obtain ⟨_, _, _, b2⟩ := wE_ok (by omega) e1
      unfold wantR; rw [if_pos e1]
      refine Ev.ite_neg (by simp) (Ev.bind (ltext _ tz) (Ev.bind (w2 _ (by omega)) ?_))
      unfold wantR; rw [if_neg e2]
      refine Ev.ite_pos rfl (Ev.some_ ?_)
      dsimp only
    · refine ⟨fun hb e p q he _ => ?_, fun hb q he => ?_⟩
      rotate_left
      · rw [hst, Prod.mk.injEq] at he; exact absurd he.1 e3
      rw [hst, Prod.mk.injEq, Prod.mk.injEq] at he
      obtain ⟨h1, h2, h3⟩ := he
      subst h1 h2
      refine ⟨atR s (tt (L s) (tt (L s) (tt (L s) i))), h hb _ (Ev.bind (w1 _ (g1 hb)) ?_)⟩
      have b1 := g1 hb
      obtain ⟨_, _, _, b2⟩ := wE_ok (by omega) e1
      obtain ⟨_, _, _, b3⟩ := wE_ok (by omega) e2
      unfold wantR; rw [if_pos e1]
      refine Ev.ite_neg (by simp) (Ev.bind (ltext _ tz) (Ev.bind (w2 _ (by omega)) ?_))
      unfold wantR; rw [if_pos e2]
      refine Ev.ite_neg (by simp) (Ev.bind (w3 _ (by omega)) ?_)
      unfold wantR; rw [if_neg e3]
      refine Ev.ite_pos rfl (Ev.some_ ?_)
      dsimp only
    · refine ⟨fun hb e p q he _ => ?_, fun hb q he => ?_⟩
      rotate_left
      · rw [hst, Prod.mk.injEq] at he; exact absurd he.1 e4
      rw [hst, Prod.mk.injEq, Prod.mk.injEq] at he
      obtain ⟨h1, h2, h3⟩ := he
      subst h1 h2
      refine ⟨atR s (tt (L s) (tt (L s) (tt (L s) (tt (L s) i)))), h hb _ (Ev.bind (w1 _ (g1 hb)) ?_)⟩
      have b1 := g1 hb
      obtain ⟨_, _, _, b2⟩ := wE_ok (by omega) e1
      obtain ⟨_, _, _, b3⟩ := wE_ok (by omega) e2
      obtain ⟨_, _, _, b4⟩ := wE_ok (by omega) e3
      unfold wantR; rw [if_pos e1]
      refine Ev.ite_neg (by simp) (Ev.bind (ltext _ tz) (Ev.bind (w2 _ (by omega)) ?_))
      unfold wantR; rw [if_pos e2]
      refine Ev.ite_neg (by simp) (Ev.bind (w3 _ (by omega)) ?_)
      unfold wantR; rw [if_pos e3]
      refine Ev.ite_neg (by simp) (Ev.bind (w4 _ (by omega)) ?_)
      unfold wantR; rw [if_neg e4]
      refine Ev.ite_pos rfl (Ev.some_ ?_)
      dsimp only
    · refine ⟨fun hb e p q he h0 => ?_, fun hb q he => ?_⟩
      · rw [hst, Prod.mk.injEq] at he; exact absurd he.1.symm h0
      rw [hst, Prod.mk.injEq, Prod.mk.injEq] at he
      obtain ⟨h1, h2, h3⟩ := he
      subst h3
      have b1 := g1 hb
      obtain ⟨_, _, _, b2⟩ := wE_ok (by omega) e1
      obtain ⟨_, _, _, b3⟩ := wE_ok (by omega) e2
      obtain ⟨_, _, _, b4⟩ := wE_ok (by omega) e3
      refine h hb _ (Ev.bind (w1 _ b1) ?_)
      unfold wantR; rw [if_pos e1]
      refine Ev.ite_neg (by simp) (Ev.bind (ltext _ tz) (Ev.bind (w2 _ (by omega)) ?_))
      unfold wantR; rw [if_pos e2]
      refine Ev.ite_neg (by simp) (Ev.bind (w3 _ (by omega)) ?_)
      unfold wantR; rw [if_pos e3]
      refine Ev.ite_neg (by simp) (Ev.bind (w4 _ (by omega)) ?_)
      unfold wantR; rw [if_pos e4]
      refine Ev.ite_neg (by simp) (Ev.some_ ?_)
      unfold stepP stepN
      rw [L_mkB]
  intro hb R hR
  obtain ⟨a1, a2, a3, a4⟩ := begins_adv (by omega) hb
  have hk : (nx (L s) i).1 = 4 := by unfold begins at hb; simp only [Bool.and_eq_true, decide_eq_true_eq] at hb; exact hb.1.2
  have hbd := nx_bd (L s) i (by omega) a3
  unfold scan_reader_include.f
  refine Ev.bind (lnx s hs i hi) ?_
  simp only [cast4]
  refine Ev.ite_pos (by omega) (Ev.ite_pos (by omega) (Ev.ite_pos (by omega) (Ev.ite_pos (by omega) (Ev.ite_pos (by omega) ?_))))
  refine Ev.step (fun k => scan_reader_include.j0.eq_2 _ _ _ _ _ _ k) (Ev.ite_neg ?_ hR)
  rw [ext_tx, toList_L, L_mkB, a4]; decide
theorem lfound_loop (s : ByteArray) (hs : s.size ≤ 65536) : ∀ (f : Nat) (acc : List SI) (i : Nat), i ≤ s.size → s.size - i < f → acc.length ≤ i → Ev (fun k => scan_found.l0 k s acc i) (resF acc (incs f (L s) i))
  | 0, acc, i, hi, hf, ha => by omega
  | f + 1, acc, i, hi, hf, ha => by
    have hL : (L s).length = s.size := L_length s
    obtain ⟨i1, i2, i3⟩ := linclude s hs i hi
    refine Ev.step (fun k => scan_found.l0.eq_2 _ _ _ k) ?_
    by_cases hb : begins (L s) i = true
    · obtain ⟨e, p, q, hst⟩ : ∃ e p q : Nat, stepE (L s) i = (e, p, q) := ⟨_, _, _, rfl⟩
      by_cases he : e = 0
      · subst he
        have hp : p = 0 := by
          rcases stepE_cases (L s) i with ⟨e1, h⟩ | ⟨_, e1, h⟩ | ⟨_, _, e1, h⟩ | ⟨_, _, _, e1, h⟩ | ⟨_, _, _, _, h⟩ <;> rw [hst, Prod.mk.injEq, Prod.mk.injEq] at h
          · exact absurd h.1.symm e1
          · exact absurd h.1.symm e1
          · exact absurd h.1.symm e1
          · exact absurd h.1.symm e1
          · exact h.2.1
        subst hp
        rw [resF_step2 _ _ _ _ _ hb hst]
        obtain ⟨q1, q2⟩ := stepE_ok2 (by omega) hb hst
        refine Ev.bind (i3 hb q hst) (Ev.ite_neg (by simp) (Ev.ite_pos rfl (Ev.ite_pos (by omega) ?_)))
        exact lfound_loop s hs f _ _ (by omega) (by omega) (by rw [List.length_append]; simp; omega)
      · obtain ⟨j, hj⟩ := i2 hb e p q hst he
        rw [resF_bad2 _ _ _ _ _ _ _ hb hst he]
        exact Ev.bind hj (Ev.ite_pos rfl (Ev.some_ rfl))
    · rw [resF_none _ _ _ _ hb]
      exact Ev.bind (i1 hb) (Ev.ite_neg (by simp) (Ev.ite_neg (by simp) (Ev.some_ rfl)))
theorem lfound (s : ByteArray) (hs : s.size ≤ 1048576) : Ev (fun k => scan_found.f k s) (resF [] (foundT s)) := by
  unfold scan_found.f foundT
  by_cases h : s.size > 65536
  · rw [if_pos h]
    exact Ev.ite_pos (by omega) (Ev.some_ rfl)
  · rw [if_neg h]
    exact Ev.ite_neg (by omega) (lfound_loop s (by omega) _ [] 0 (by omega) (by omega) (by simp))
theorem rone (s : ByteArray) (hs : s.size ≤ 65536) (i : Nat) (hi : i ≤ s.size) : Ev (fun k => treadleref13_one.f k s i) (if (nx (L s) i).2.2.2 = 0 then (mkB (tx (L s) i), (tt (L s) i : Nat), 0, (fr (L s) i : Nat)) else (⟨#[]⟩, 0, ((nx (L s) i).2.2.2 : Nat), (fr (L s) i : Nat))) := by
  unfold treadleref13_one.f
  refine Ev.bind (rnx s hs i hi) ?_
  have hL : (L s).length = s.size := L_length s
  simp only [cast4]
  by_cases he : (nx (L s) i).2.2.2 = 0
  · have hb := nx_bd (L s) i (by omega) he
    rw [if_pos he]
    refine Ev.ite_pos (by omega) (Ev.ite_pos (by omega) (Ev.ite_pos (by omega) (Ev.ite_pos (by omega) (Ev.some_ ?_))))
    rw [ext_tx]; rfl
  · rw [if_neg he]
    exact Ev.ite_neg (by omega) (Ev.some_ rfl)
theorem rfits (x : ByteArray) (hx : x.size ≤ 1048576) (p : Nat) (h1 : 1 ≤ p) (h4 : p ≤ 4) : Ev (fun k => treadleref13_fits.f k p x) (fit p (L x)) := by
  have hp : p = 1 ∨ p = 2 ∨ p = 3 ∨ p = 4 := by omega
  unfold treadleref13_fits.f fit
  rcases hp with rfl | rfl | rfl | rfl
  · refine Ev.ite_pos rfl (Ev.bind (rtext x hx) (Ev.some_ ?_))
    rw [if_pos rfl]
    by_cases h : (textR (L x)).2 = 0
    · rw [h]; rfl
    · rw [decide_eq_false h]; exact beq_eq_false_iff_ne.mpr h
  · refine Ev.ite_neg (by decide) (Ev.ite_pos rfl (Ev.some_ ?_))
    rw [if_neg (by decide), if_pos rfl, toList_L]
    by_cases h : L x = asT
    · rw [h]; rfl
    · rw [decide_eq_false h]; exact beq_eq_false_iff_ne.mpr h
  · refine Ev.ite_neg (by decide) (Ev.ite_neg (by decide) (Ev.ite_pos rfl (Ev.bind (rword x hx) (Ev.some_ ?_))))
    rw [if_neg (by decide), if_neg (by decide), if_pos rfl]
  · refine Ev.ite_neg (by decide) (Ev.ite_neg (by decide) (Ev.ite_neg (by decide) (Ev.some_ ?_)))
    rw [if_neg (by decide), if_neg (by decide), if_neg (by decide), toList_L]
    by_cases h : L x = semT
    · rw [h]; rfl
    · rw [decide_eq_false h]; exact beq_eq_false_iff_ne.mpr h
theorem rplace4 (s : ByteArray) (hs : s.size ≤ 65536) (acc : List SI) (i p : Nat) (hi : i ≤ s.size) (h1 : 1 ≤ p) (h4 : p ≤ 4) (P N : ByteArray) (A : Int) :
    (wE (L s) i p ≠ 0 → Ev (fun k => treadleref13_Includes.l1 k s acc i p P N A) ([], 0, (wE (L s) i p : Nat), (fr (L s) i : Nat))) ∧
    (∀ R, wE (L s) i p = 0 → Ev (fun k => treadleref13_Includes.l1 k s acc (tt (L s) i : Nat) ((p + 1 : Nat) : Int) (if p = 1 then (textR (tx (L s) i)).1 else P) (if p = 3 then mkB (tx (L s) i) else N) A) R → Ev (fun k => treadleref13_Includes.l1 k s acc i p P N A) R) := by
  have hsz : (mkB (tx (L s) i)).size ≤ 1048576 := by have := tx_size s i; omega
  have j4bad : ∀ (x14 : ByteArray) (x15 e x17 : Int), e ≠ 0 → Ev (fun k => treadleref13_Includes.j4 k s acc p x14 x15 e x17 P N A) ([], 0, e, x17) := fun x14 x15 e x17 he =>
    Ev.step (fun k => treadleref13_Includes.j4.eq_2 _ _ _ _ _ _ _ _ _ _ k) (Ev.ite_neg he (Ev.some_ rfl))
  have first : ∀ R, Ev (fun k => (treadleref13_one.f k s i).bind fun bt260 => (if bt260.2.2.1 = 0 then ((treadleref13_fits.f k p bt260.1).bind fun t264 => (treadleref13_Includes.j3 k s acc p bt260.1 bt260.2.1 bt260.2.2.1 bt260.2.2.2 (!t264) P N A)) else (treadleref13_Includes.j3 k s acc p bt260.1 bt260.2.1 bt260.2.2.1 bt260.2.2.2 false P N A))) R → Ev (fun k => treadleref13_Includes.l1 k s acc i p P N A) R := fun R hR =>
    Ev.step (fun k => treadleref13_Includes.l1.eq_2 _ _ _ _ _ _ _ k) (Ev.ite_pos (by omega) hR)
  refine ⟨fun hw => ?_, fun R hw hR => ?_⟩
  · refine first _ (Ev.bind (rone s hs i hi) ?_)
    by_cases he : (nx (L s) i).2.2.2 = 0
    · have hw2 : wE (L s) i p = if fit p (tx (L s) i) = true then 0 else 130 := by unfold wE; rw [if_neg (by omega)]
      have hf : ¬ fit p (tx (L s) i) = true := fun h => hw (by rw [hw2, if_pos h])
      rw [if_pos he, hw2, if_neg hf]
      simp only
      refine Ev.ite_pos (by first | rfl | trivial) (Ev.bind (rfits _ hsz p h1 h4) ?_)
      rw [L_mkB]
      refine Ev.step (fun k => treadleref13_Includes.j3.eq_2 _ _ _ _ _ _ _ _ _ _ _ k) (Ev.ite_pos (by simp [hf]) ?_)
      exact j4bad _ _ _ _ (by omega)
    · have hw2 : wE (L s) i p = (nx (L s) i).2.2.2 := by unfold wE; rw [if_pos he]
      rw [if_neg he, hw2]
      simp only
      refine Ev.ite_neg (by omega) ?_
      refine Ev.step (fun k => treadleref13_Includes.j3.eq_2 _ _ _ _ _ _ _ _ _ _ _ k) (Ev.ite_neg (by simp) ?_)
      exact j4bad _ _ _ _ (by omega)
  · obtain ⟨he, hf, _, _⟩ := wE_ok (by rw [L_length]; exact hi) hw
    refine first _ (Ev.bind (rone s hs i hi) ?_)
    rw [if_pos he]
    simp only
    refine Ev.ite_pos (by first | rfl | trivial) (Ev.bind (rfits _ hsz p h1 h4) ?_)
    rw [L_mkB]
    refine Ev.step (fun k => treadleref13_Includes.j3.eq_2 _ _ _ _ _ _ _ _ _ _ _ k) (Ev.ite_neg (by simp [hf]) ?_)
    refine Ev.step (fun k => treadleref13_Includes.j4.eq_2 _ _ _ _ _ _ _ _ _ _ k) (Ev.ite_pos rfl ?_)
    have hwr : wrap64 ((p : Int) + 1) = ((p + 1 : Nat) : Int) := wrap_succ (by omega)
    rw [hwr]
    by_cases p1 : p = 1
    · subst p1
      rw [if_pos rfl, if_neg (by decide)] at hR
      refine Ev.ite_pos rfl (Ev.bind (rtext _ hsz) (Ev.ite_neg (by decide) ?_))
      rw [L_mkB]
      exact hR
    · rw [if_neg p1] at hR
      refine Ev.ite_neg (by omega) ?_
      by_cases p3 : p = 3
      · subst p3
        rw [if_pos rfl] at hR
        exact Ev.ite_pos rfl hR
      · rw [if_neg p3] at hR
        refine Ev.ite_neg (by omega) ?_
        exact hR
theorem rinc_loop (s : ByteArray) (hs : s.size ≤ 65536) : ∀ (f : Nat) (acc : List SI) (i : Nat), i ≤ s.size → s.size - i < f → acc.length ≤ i → Ev (fun k => treadleref13_Includes.l0 k s acc i) (resF acc (incs f (L s) i))
  | 0, acc, i, hi, hf, ha => by omega
  | f + 1, acc, i, hi, hf, ha => by
    have hL : (L s).length = s.size := L_length s
    refine Ev.step (fun k => treadleref13_Includes.l0.eq_2 _ _ _ k) (Ev.bind (rone s hs i hi) ?_)
    have jt : ∀ (x9 x11 : Int) (b : Bool), b = true → Ev (fun k => treadleref13_Includes.j1 k s acc i x9 x11 b) (acc, (i : Nat), 0, 0) := fun x9 x11 b hb =>
      Ev.step (fun k => treadleref13_Includes.j1.eq_2 _ _ _ _ _ _ k) (Ev.ite_pos hb (Ev.some_ rfl))
    by_cases hb : begins (L s) i = true
    · obtain ⟨a1, a2, a3, a4⟩ := begins_adv (by omega) hb
      rw [if_pos a3]
      simp only
      refine Ev.ite_pos (by first | rfl | trivial) ?_
      refine Ev.step (fun k => treadleref13_Includes.j1.eq_2 _ _ _ _ _ _ k) (Ev.ite_neg (by rw [toList_L, L_mkB, a4]; decide) ?_)
      obtain ⟨b1, c1⟩ := rplace4 s hs acc (tt (L s) i) 1 (by omega) (by omega) (by omega) ⟨#[]⟩ ⟨#[]⟩ (fr (L s) i : Nat)
      by_cases e1 : wE (L s) (tt (L s) i) 1 ≠ 0
      · have hst : stepE (L s) i = (wE (L s) (tt (L s) i) 1, fr (L s) (tt (L s) i), 0) := by unfold stepE; rw [if_pos e1]
        rw [resF_bad2 _ _ _ _ _ _ _ hb hst e1]; exact b1 e1
      have e1 : wE (L s) (tt (L s) i) 1 = 0 := by omega
      obtain ⟨_, _, _, d2⟩ := wE_ok (by omega) e1
      refine c1 _ e1 ?_
      rw [if_pos rfl, if_neg (by decide)]
      obtain ⟨b2, c2⟩ := rplace4 s hs acc (tt (L s) (tt (L s) i)) 2 (by omega) (by omega) (by omega) (textR (tx (L s) (tt (L s) i))).1 ⟨#[]⟩ (fr (L s) i : Nat)
      by_cases e2 : wE (L s) (tt (L s) (tt (L s) i)) 2 ≠ 0
      · have hst : stepE (L s) i = (wE (L s) (tt (L s) (tt (L s) i)) 2, fr (L s) (tt (L s) (tt (L s) i)), 0) := by unfold stepE; rw [if_neg (by omega), if_pos e2]
        rw [resF_bad2 _ _ _ _ _ _ _ hb hst e2]; exact b2 e2
      have e2 : wE (L s) (tt (L s) (tt (L s) i)) 2 = 0 := by omega
      obtain ⟨_, _, _, d3⟩ := wE_ok (by omega) e2
      refine c2 _ e2 ?_
      rw [if_neg (by decide), if_neg (by decide)]
      obtain ⟨b3, c3⟩ := rplace4 s hs acc (tt (L s) (tt (L s) (tt (L s) i))) 3 (by omega) (by omega) (by omega) (textR (tx (L s) (tt (L s) i))).1 ⟨#[]⟩ (fr (L s) i : Nat)
      by_cases e3 : wE (L s) (tt (L s) (tt (L s) (tt (L s) i))) 3 ≠ 0
      · have hst : stepE (L s) i = (wE (L s) (tt (L s) (tt (L s) (tt (L s) i))) 3, fr (L s) (tt (L s) (tt (L s) (tt (L s) i))), 0) := by unfold stepE; rw [if_neg (by omega), if_neg (by omega), if_pos e3]
        rw [resF_bad2 _ _ _ _ _ _ _ hb hst e3]; exact b3 e3
      have e3 : wE (L s) (tt (L s) (tt (L s) (tt (L s) i))) 3 = 0 := by omega
      obtain ⟨_, _, _, d4⟩ := wE_ok (by omega) e3
      refine c3 _ e3 ?_
      rw [if_neg (by decide), if_pos rfl]
      obtain ⟨b4, c4⟩ := rplace4 s hs acc (tt (L s) (tt (L s) (tt (L s) (tt (L s) i)))) 4 (by omega) (by omega) (by omega) (textR (tx (L s) (tt (L s) i))).1 (mkB (tx (L s) (tt (L s) (tt (L s) (tt (L s) i))))) (fr (L s) i : Nat)
      by_cases e4 : wE (L s) (tt (L s) (tt (L s) (tt (L s) (tt (L s) i)))) 4 ≠ 0
      · have hst : stepE (L s) i = (wE (L s) (tt (L s) (tt (L s) (tt (L s) (tt (L s) i)))) 4, fr (L s) (tt (L s) (tt (L s) (tt (L s) (tt (L s) i)))), 0) := by unfold stepE; rw [if_neg (by omega), if_neg (by omega), if_neg (by omega), if_pos e4]
        rw [resF_bad2 _ _ _ _ _ _ _ hb hst e4]; exact b4 e4
      have e4 : wE (L s) (tt (L s) (tt (L s) (tt (L s) (tt (L s) i)))) 4 = 0 := by omega
      obtain ⟨_, _, d5, d6⟩ := wE_ok (by omega) e4
      refine c4 _ e4 ?_
      rw [if_neg (by decide), if_neg (by decide)]
      have hst : stepE (L s) i = (0, 0, tt (L s) (tt (L s) (tt (L s) (tt (L s) (tt (L s) i))))) := by unfold stepE; rw [if_neg (by omega), if_neg (by omega), if_neg (by omega), if_neg (by omega)]
      obtain ⟨q1, q2⟩ := stepE_ok2 (by omega) hb hst
      rw [resF_step2 _ _ _ _ _ hb hst]
      refine Ev.step (fun k => treadleref13_Includes.l1.eq_2 _ _ _ _ _ _ _ k) (Ev.ite_neg (by omega) (Ev.ite_pos (by omega) ?_))
      exact rinc_loop s hs f _ _ (by omega) (by omega) (by rw [List.length_append]; simp; omega)
    · rw [resF_none _ _ _ _ hb]
      by_cases he : (nx (L s) i).2.2.2 = 0
      · rw [if_pos he]
        simp only
        refine Ev.ite_pos (by first | rfl | trivial) (jt _ _ _ ?_)
        rw [toList_L, L_mkB, bne_iff_ne]
        intro h
        apply hb
        have hk := (kind_eq (L s) i 4 incT (by omega) he (by omega) (by rw [tok_inc]) (by decide)).mpr h
        unfold begins
        rw [decide_eq_true he, decide_eq_true hk.1, decide_eq_true hk.2]; rfl
      · rw [if_neg he]
        simp only
        exact Ev.ite_neg (by omega) (jt _ _ _ rfl)
theorem rincs (s : ByteArray) (hs : s.size ≤ 1048576) : Ev (fun k => treadleref13_Includes.f k s) (resF [] (foundT s)) := by
  unfold treadleref13_Includes.f foundT
  by_cases h : s.size > 65536
  · rw [if_pos h]
    exact Ev.ite_pos (by omega) (Ev.some_ rfl)
  · rw [if_neg h]
    exact Ev.ite_neg (by omega) (rinc_loop s (by omega) _ [] 0 (by omega) (by omega) (by simp))
end Go.Proofs.YtifachjefpcgcaaDoor.Pure
