/- Texts of this repo, bundled: PrM, OpenSz, PrN, PrNb, PrNc, PrO, PrOb, PrP, PrPb, PrPc, LibWr, LibRep, PrR, OpenTwo, PrU, PrUb. -/
import Derived.Test.YtaddhpeainliiaaGreatDoorBunPrintModulesh
import Derived.Deep.RegionHeld3
/-! ## PrM -/
namespace Go.Proofs.YtaddhpeainliiaaGreatDoor.Id
open Go
set_option linter.unusedVariables false
set_option linter.unusedSimpArgs false
set_option maxRecDepth 100000
mutual
def rgS : TStmt → Prop
  | .mk k a nm e body els he => rgE e ∧ rgSs body ∧ rgSs els
def rgSs : List TStmt → Prop
  | [] => True
  | x :: r => rgS x ∧ rgSs r
end
theorem rgSs_mem : ∀ {l : List TStmt} {e : TStmt}, rgSs l → e ∈ l → rgS e
  | x :: r, e, h, he => by
    rw [rgSs] at h
    rcases List.mem_cons.1 he with rfl | he
    · exact h.1
    · exact rgSs_mem h.2 he
theorem rgEs_of : ∀ {l : List TExpr}, (∀ e ∈ l, rgE e) → rgEs l
  | [], _ => by rw [rgEs]; trivial
  | x :: r, h => by rw [rgEs]; exact ⟨h x (by simp), rgEs_of fun e he => h e (by simp [he])⟩
theorem rgSs_of : ∀ {l : List TStmt}, (∀ e ∈ l, rgS e) → rgSs l
  | [], _ => by rw [rgSs]; trivial
  | x :: r, h => by rw [rgSs]; exact ⟨h x (by simp), rgSs_of fun e he => h e (by simp [he])⟩
structure RgM (m : TMod) : Prop where
  cs : ∀ c ∈ m.cs, rgE c.e
  fs : ∀ f ∈ m.fs, rgSs f.body
section
variable {X : Given}
theorem line_does (hP : LibP X) (p : PSt) (h0 : 0 ≤ p.tabs) (ht : p.tabs ≤ 70368744177664) (hB : Bd (pline p)) : Does X 178 [.box base 0] [pW p] (.ret (.tuple []) [pW (pline p)]) := by
  obtain ⟨o, t, l, i, v, m⟩ := p
  dsimp only at h0 ht
  obtain ⟨n, rfl⟩ := Int.eq_ofNat_of_zero_le h0
  have hl : L (mkB [10] ++ mkB (List.replicate n 9)) = 10 :: List.replicate n 9 := by rw [L_append, L_mkB, L_mkB]; rfl
  have hg := gap_does hP (mkB [10] ++ mkB (List.replicate n 9)) ⟨o, t, l, n, v, m⟩ (by rw [hl]; exact hB)
  rw [hl] at hg
  refine DoesQ.eq (DoesQ.of Tryz.func178 (by kernel_rfl) ?_)
  refine WP.use1 (Does.ext (hP.rep n (by omega))) ?_
  refine WP.asrt ?_ ?_
  · rw [show (mkB (List.replicate n 9)).size = n by rw [← L_length, L_mkB, List.length_replicate]]
    show 1 + n ≤ _
    omega
  refine WP.use1 hg ?_
  exact WP.leaf rfl
theorem after_does (hP : LibP X) (e : TExpr) (hE : ExprOK X e) (p : PSt) (hg : Pg p) (hB : Bd (wE litP e (pgap [32] p))) : Does X 107 [.box base 0, .agg (eD e)] [pW p] (.ret (.tuple []) [pW (wE litP e (pgap [32] p))]) := by
  have b1 := hB.of (gw_e e _)
  refine DoesQ.eq (DoesQ.of Tryz.func107 (by kernel_rfl) ?_)
  refine WP.use1 (gap_lit hP [32] p b1) ?_
  refine WP.use1 (hE false _ (Fr.no _) (hg.gap _) hB) ?_
  exact WP.leaf rfl
/-- some tokens, gaps between -/
def wToks : List ByteArray → Bool → PSt → PSt
  | [], _, p => p
  | s :: r, first, p => wToks r false (ptok (L s) (if first = true then p else pgap [32] p))
theorem gw_toks : ∀ l b, Gw (wToks l b)
  | [], b => fun p => Le.rfl
  | s :: r, b => fun p => by
    rw [wToks]
    refine Le.to (gw_toks r false) (Le.to (gw_tok _) ?_)
    split
    · exact Le.rfl
    · exact gw_gap _ p
/-- tokens that are no brackets -/
def TkOK (s : ByteArray) : Prop := L s ≠ [] ∧ L s ≠ [123] ∧ L s ≠ [125] ∧ L s ≠ [41]
theorem tk_word {s : ByteArray} (h : isWord s = true) : TkOK s := ⟨isWord_ne h, isWord_br h⟩
theorem tk_lit {l : List UInt8} (h : l ≠ [] ∧ l ≠ [123] ∧ l ≠ [125] ∧ l ≠ [41]) : TkOK (mkB l) := by unfold TkOK; rw [L_mkB]; exact h
abbrev strsD (l : List ByteArray) : List (List D) := l.map fun s => [D.str s]
set_option maxHeartbeats 2000000 in
theorem toks_loop (hP : LibP X) (l : List ByteArray) (hk : l.length ≤ 1000000000) (hl : ∀ s ∈ l, TkOK s) (p9 : PSt) (hB9 : Bd p9) (K : Ex → St → Id.T Out) (Q : Out → Prop) (hK : WP X (K (.exit 0) ⟨[], [(base, pW p9)]⟩) Q) :
    ∀ (r p : List ByteArray) (b : Bool) (q : PSt), l = p ++ r → (b = true → p = []) → (r = [] → b = false) → Fr b q → Pg q → wToks r (decide (p.length = 0)) q = p9 → ∀ σ : St, getT σ.t 0 = .box base 0 → getT σ.t 6 = .d (.sl 1 (strsD l)) → getT σ.t 7 = vI (strsD l).length → getT σ.t 8 = vI p.length → getB σ.b base = some (pV b q) → WP X (.loop (lp Tryz.f106 0) σ K) Q
  | r, p, b, q, h, hb, hr, h0, hg, hq, σ, g0, g6, g7, g8, gb => by
    refine WP.round ⟨[(0, .box base 0), (6, .d (.sl 1 (strsD l))), (7, vI (strsD l).length), (8, vI p.length)], [(base, pV b q)]⟩ ⟨⟨.inl g0.symm, .inl g6.symm, .inl g7.symm, .inl g8.symm, trivial⟩, ⟨WkB.box gb, trivial⟩⟩ ?_
    have hlen : l.length = p.length + r.length := by rw [h]; simp
    have hsl : (strsD l).length = l.length := by simp
    cases r with
    | nil =>
      obtain rfl := hr rfl
      refine WP.iteF (by rw [hsl]; simp at hlen; simp; omega) ?_
      rw [wToks] at hq
      subst hq
      exact WP.leaf ⟨⟨[], [(base, pW q)]⟩, ⟨trivial, ⟨WkB.box rfl, trivial⟩⟩, hK⟩
    | cons s r =>
      simp only [List.length_cons] at hlen
      have hs := hl s (by rw [h]; simp)
      rw [wToks] at hq
      have hnext : ∀ (q1 : PSt) (σ : St), Pg q1 → wToks r false q1 = p9 → getT σ.t 0 = .box base 0 → getT σ.t 6 = .d (.sl 1 (strsD l)) → getT σ.t 7 = vI (strsD l).length → getT σ.t 8 = vI (IntKind.i64.wrap ((p.length : Int) + 1)) → getB σ.b base = some (pW q1) → WP X (.loop (lp Tryz.f106 0) σ K) Q := fun q1 σ hg1 hq1 g0 g6 g7 g8 gb => by
        refine toks_loop hP l hk hl p9 hB9 K Q hK r (p ++ [s]) false q1 (by rw [h]; simp) (fun h => by cases h) (fun _ => rfl) (Fr.no _) hg1 ?_ σ g0 g6 g7 ?_ gb
        · rw [decide_eq_false (by simp)]; exact hq1
        · rw [g8, wrapI (by omega) (by omega)]; simp
      by_cases hp : p.length = 0
      · rw [decide_eq_true hp, if_pos rfl] at hq
        have ht := tok_any hP b q h0 hg s hs.1 (fun _ => hs.2) ((hq ▸ hB9 : Bd _).of (gw_toks _ _ _))
        have hg1 : Pg (ptok (L s) q) := hg.any hs.2.2.1 hs.2.2.2
        cases b
        all_goals
          refine WP.iteT (by rw [hsl]; simp; omega) ?_
          refine WP.idx _ (by omega) (map_get _ h) ?_
          refine WP.iteF (decide_eq_false (by omega)) ?_
          refine WP.use1 ht ?_
          exact WP.leaf (hnext _ _ hg1 hq rfl rfl rfl rfl rfl)
      · rw [decide_eq_false hp, if_neg (by simp)] at hq
        have b2 : Bd (ptok (L s) (pgap [32] q)) := (hq ▸ hB9 : Bd _).of (gw_toks _ _ _)
        have ht := tok_any hP false (pgap [32] q) (Fr.no _) (hg.gap _) s hs.1 (fun _ => hs.2) b2
        have hg1 : Pg (ptok (L s) (pgap [32] q)) := (hg.gap _).any hs.2.2.1 hs.2.2.2
        cases b with
        | true => exact absurd (by rw [hb rfl]; rfl) hp
        | false =>
          refine WP.iteT (by rw [hsl]; simp; omega) ?_
          refine WP.idx _ (by omega) (map_get _ h) ?_
          refine WP.iteT (decide_eq_true (by omega)) ?_
          refine WP.use1 (gap_lit hP [32] q (b2.of (gw_tok _ _))) ?_
          refine WP.use1 ht ?_
          exact WP.leaf (hnext _ _ hg1 hq rfl rfl rfl rfl rfl)
theorem toks_does (hP : LibP X) (l : List ByteArray) (hne : l ≠ []) (hk : l.length ≤ 1000000000) (hl : ∀ s ∈ l, TkOK s) (b : Bool) (p : PSt) (h0 : Fr b p) (hg : Pg p) (hB : Bd (wToks l true p)) : Does X 106 [.box base 0, .d (.sl 1 (strsD l))] [pV b p] (.ret (.tuple []) [pW (wToks l true p)]) := by
  cases b with
  | true =>
    refine DoesQ.eq (DoesQ.of Tryz.func106 (by kernel_rfl) ?_)
    refine toks_loop hP l hk hl _ hB _ _ ?_ l [] true p rfl (fun _ => rfl) (fun h => absurd h hne) h0 hg rfl _ rfl rfl rfl rfl rfl
    exact WP.leaf rfl
  | false =>
    refine DoesQ.eq (DoesQ.of Tryz.func106 (by kernel_rfl) ?_)
    refine toks_loop hP l hk hl _ hB _ _ ?_ l [] false p rfl (fun _ => rfl) (fun h => absurd h hne) h0 hg rfl _ rfl rfl rfl rfl rfl
    exact WP.leaf rfl
theorem Pg.toks {p : PSt} (h : Pg p) : ∀ (l : List ByteArray), (∀ s ∈ l, TkOK s) → ∀ b (p : PSt), Pg p → Pg (wToks l b p)
  | [], _, b, p, hp => hp
  | s :: r, hl, b, p, hp => by
    have hs := hl s (by simp)
    rw [wToks]
    refine Pg.toks h r (fun x hx => hl x (by simp [hx])) false _ ?_
    split
    · exact hp.any hs.2.2.1 hs.2.2.2
    · exact (hp.gap _).any hs.2.2.1 hs.2.2.2
end
end Go.Proofs.YtaddhpeainliiaaGreatDoor.Id
/-! ## OpenSz -/
namespace Go.Proofs.YtaddhpeainliiaaGreatDoor.Id
open Go Go.ChangeShapes Go.WideShapes
set_option linter.unusedVariables false
set_option linter.unusedSimpArgs false
theorem sumN_app : ∀ a b : List Nat, sumN (a ++ b) = sumN a + sumN b
  | [], b => by simp [sumN]
  | x :: r, b => by rw [List.cons_append, sumN, sumN, sumN_app r b]; omega
section
variable {H : Type} {enc : TypeId × Value → H} {w : World}
theorem bulk_sum : ∀ l : List (DataW H × List MemPlace), sumN (l.map fun y => Rows.uptoBulk y.1) ≤ Rows.uptoBulkAll (l.map (·.1))
  | [] => by simp [sumN]
  | x :: r => by
    have := bulk_sum r
    rw [List.map_cons, List.map_cons, sumN, Rows.uptoBulkAll]; omega
theorem agg_sum {xs : List (DataW H × List MemPlace)} : sumN (xs.map fun y => Rows.uptoBulk y.1) + 1 ≤ Rows.uptoBulk (DataW.agg (xs.map (·.1))) := by
  have h2 : Rows.uptoBulk (DataW.agg (xs.map (·.1))) = Rows.uptoBulkAll (xs.map (·.1)) + 1 := by rw [Rows.uptoBulk]
  have := bulk_sum xs
  omega
theorem sum3 {xs : List (DataW H × List MemPlace)} (h : xs.length = 3) : sumN (xs.map fun y => Rows.uptoBulk y.1) = Rows.uptoBulk (xs[0]'(by omega)).1 + (Rows.uptoBulk (xs[1]'(by omega)).1 + Rows.uptoBulk (xs[2]'(by omega)).1) := by
  match xs, h with
  | [a, b, c], _ => simp [sumN]
theorem sum2 {xs : List (DataW H × List MemPlace)} (h : xs.length = 2) : sumN (xs.map fun y => Rows.uptoBulk y.1) = Rows.uptoBulk (xs[0]'(by omega)).1 + Rows.uptoBulk (xs[1]'(by omega)).1 := by
  match xs, h with
  | [a, b], _ => simp [sumN]
theorem sum4 {xs : List (DataW H × List MemPlace)} (h : xs.length = 4) : sumN (xs.map fun y => Rows.uptoBulk y.1) = Rows.uptoBulk (xs[0]'(by omega)).1 + (Rows.uptoBulk (xs[1]'(by omega)).1 + (Rows.uptoBulk (xs[2]'(by omega)).1 + Rows.uptoBulk (xs[3]'(by omega)).1)) := by
  match xs, h with
  | [a, b, c, d], _ => simp [sumN]
theorem sum6 {xs : List (DataW H × List MemPlace)} (h : xs.length = 6) : sumN (xs.map fun y => Rows.uptoBulk y.1) = Rows.uptoBulk (xs[0]'(by omega)).1 + (Rows.uptoBulk (xs[1]'(by omega)).1 + (Rows.uptoBulk (xs[2]'(by omega)).1 + (Rows.uptoBulk (xs[3]'(by omega)).1 + (Rows.uptoBulk (xs[4]'(by omega)).1 + Rows.uptoBulk (xs[5]'(by omega)).1)))) := by
  match xs, h with
  | [a, b, c, d, e, f], _ => simp [sumN]
theorem sum7 {xs : List (DataW H × List MemPlace)} (h : xs.length = 7) : sumN (xs.map fun y => Rows.uptoBulk y.1) = Rows.uptoBulk (xs[0]'(by omega)).1 + (Rows.uptoBulk (xs[1]'(by omega)).1 + (Rows.uptoBulk (xs[2]'(by omega)).1 + (Rows.uptoBulk (xs[3]'(by omega)).1 + (Rows.uptoBulk (xs[4]'(by omega)).1 + (Rows.uptoBulk (xs[5]'(by omega)).1 + Rows.uptoBulk (xs[6]'(by omega)).1))))) := by
  match xs, h with
  | [a, b, c, d, e, f, g], _ => simp [sumN]
/-- the elements of a row -/
theorem trod_row2 {α : Type} (F : α → List D) (B : α → Prop) (μ : α → Nat) {z t e : Nat} (hz : 0 < z) (ht : Tryz.prog.underlying t = some (.slice e)) (hc : Tryz.prog.cellsOf e = z) {fuel : Nat} {cs : List Value} {x : DataW H × List MemPlace}
    (hel : ∀ n, n < fuel → ∀ cs x, TR enc w n e cs = some x → Rows.uptoBulk x.1 ≤ 1048576 → ∃ a, RepDs (seen w).h (F a) cs ∧ B a ∧ μ a ≤ Rows.uptoBulk x.1)
    (h : TR enc w fuel t cs = some x) (hb : Rows.uptoBulk x.1 ≤ 1048576) : ∃ (l : List α) (v : Value), cs = [v] ∧ RepD (seen w).h v (.sl z (l.map F)) ∧ (∀ a ∈ l, B a) ∧ l.length ≤ 1048576 ∧ sumN (l.map μ) ≤ Rows.uptoBulk x.1 := by
  rcases DataW.trod_slice ht h with ⟨rfl, rfl⟩ | ⟨a, len, cap, elems, rest, n, hn, rfl, rfl, hba, hl, hm, hlen, hes, hsp, hns⟩
  · exact ⟨[], _, rfl, RepD.sl0 z, fun _ h => (by cases h), by simp, by simp [sumN]⟩
  · have hbulk : ∀ y ∈ elems, Rows.uptoBulk y.1 ≤ 1048576 := fun y hy => by
      have h1 := bulks.part_le (List.mem_map_of_mem (f := fun (x : DataW H × List MemPlace) => x.1) hy)
      have h2 := bulks.slice_elems (elems.map (·.1)) (rest.map (·.1))
      simp only at hb; omega
    have hall : ∀ i (hi : i < len), ∃ a0, B a0 ∧ μ a0 ≤ Rows.uptoBulk (elems[i]'(by omega)).1 ∧ ∃ cs, RepDs (seen w).h (F a0) cs ∧ cs.length = z ∧ ∀ q, q < z → w.cell? (a.add (i * z + q)) = cs[q]? := fun i hi => by
      have h1 := hes i hi
      rw [List.getElem?_eq_getElem (by omega), Option.bind_eq_some_iff] at h1
      obtain ⟨cs, h2, h3⟩ := h1
      obtain ⟨a0, h4, h5, h5m⟩ := hel n (by omega) cs _ h3 (hbulk _ (List.getElem_mem _))
      obtain ⟨_, h6, h7⟩ := World.cells?_some h2
      rw [hc] at h6 h7
      exact ⟨a0, h5, h5m, cs, h4, h6, fun q hq => by rw [← h7 q hq, Addr.add_add]⟩
    have hex : ∀ m, m ≤ len → ∃ l : List α, l.length = m ∧ (∀ a0 ∈ l, B a0) ∧ sumN (l.map μ) ≤ sumN ((elems.take m).map fun y => Rows.uptoBulk y.1) ∧ ∀ (j : Nat) a0, l[j]? = some a0 → ∃ cs, RepDs (seen w).h (F a0) cs ∧ cs.length = z ∧ ∀ q, q < z → w.cell? (a.add (j * z + q)) = cs[q]? := by
      intro m
      induction m with
      | zero => exact fun _ => ⟨[], rfl, fun _ h => (by cases h), by simp [sumN], fun j a0 h => (by simp at h)⟩
      | succ m ih =>
        intro hm
        obtain ⟨l, h1, h2, h2m, h3⟩ := ih (by omega)
        obtain ⟨a0, g1, g1m, cs, g2, g3, g4⟩ := hall m (by omega)
        refine ⟨l ++ [a0], by simp [h1], fun b hb => ?_, ?_, fun j b hj => ?_⟩
        · rcases List.mem_append.1 hb with h | h
          · exact h2 b h
          · rw [List.mem_singleton] at h; subst h; exact g1
        · rw [List.take_add_one, List.getElem?_eq_getElem (by omega)]
          simp only [Option.toList, List.map_append, sumN_app, List.map_cons, List.map_nil, sumN]
          omega
        · rcases Nat.lt_or_ge j m with h | h
          · rw [List.getElem?_append_left (by omega)] at hj; exact h3 j b hj
          · rw [List.getElem?_append_right (by omega), h1] at hj
            have : j - m = 0 := by
              rcases Nat.eq_zero_or_pos (j - m) with h | h
              · exact h
              · rw [List.getElem?_eq_none (by simp; omega)] at hj; cases hj
            rw [this] at hj
            cases hj
            obtain rfl : j = m := by omega
            exact ⟨cs, g2, g3, g4⟩
    obtain ⟨l, h1, h2, h2m, h3⟩ := hex len (Nat.le_refl _)
    have hfin : sumN (l.map μ) ≤ Rows.uptoBulk (DataW.slice (elems.map (·.1)) (rest.map (·.1))) := by
      rw [List.take_of_length_le (by omega)] at h2m
      have g1 := bulk_sum elems
      have g2 := bulks.slice_elems (elems.map (·.1)) (rest.map (·.1))
      omega
    refine ⟨l, _, rfl, ?_, h2, ?_, hfin⟩
    · have hcell : ∀ (j : Nat) es (i : Nat) y, (l.map F)[j]? = some es → es[i]? = some y → ∃ v, w.cell? (a.add (j * z + i)) = some v ∧ RepD (seen w).h v y := fun j es i y hj hi => by
        rw [List.getElem?_map, Option.map_eq_some_iff] at hj
        obtain ⟨a0, hj, rfl⟩ := hj
        obtain ⟨cs, g1, g2, g3⟩ := h3 j a0 hj
        obtain ⟨v, g4, g5⟩ := g1.get hi
        have hiz : i < z := by
          have := (List.getElem?_eq_some_iff.1 g4).1; omega
        exact ⟨v, by rw [g3 i hiz]; exact g4, g5⟩
      have hlm : (l.map F).length = len := by simp [h1]
      rw [← hlm]
      refine RepD.sl a cap z (l.map F) (fun j i => (w.cell? (a.add (j * z + i))).getD Go.undef) (fun hne => ?_) (by omega) (fun j es hj => ?_) (fun j es i y hj hi => ?_) (fun j es i y hj hi => ?_)
      · have hlen0 : 0 < len := by
          rw [← hlm]; exact List.length_pos_iff.2 hne
        obtain ⟨a0, _, _, cs, _, g3, g4⟩ := hall 0 hlen0
        have g5 := g4 0 hz
        rw [List.getElem?_eq_getElem (by omega)] at g5
        have := World.cell?_spot g5
        simpa [Addr.add] using this
      · rw [List.getElem?_map, Option.map_eq_some_iff] at hj
        obtain ⟨a0, hj, rfl⟩ := hj
        obtain ⟨cs, g1, g2, _⟩ := h3 j a0 hj
        rw [g1.len, g2]
      · obtain ⟨v, g1, g2⟩ := hcell j es i y hj hi
        have := seen_cell g1
        rw [add_block, add_off] at this
        rw [g1]; exact this
      · obtain ⟨v, g1, g2⟩ := hcell j es i y hj hi
        simp only [g1, Option.getD_some]; exact g2
    · have h4 := bulks.slice_le (elems.map (·.1)) (rest.map (·.1))
      simp only [List.length_map] at h4
      simp only at hb; omega
set_option maxRecDepth 100000 in
theorem trod_value2 {n : Nat} {cs : List Value} {x : DataW H × List MemPlace} (h : TR enc w n 30 cs = some x) : ∃ v : TVal, cs = [.int .i64 v.t, .int .i64 v.i, .bool v.b, .string v.s] ∧ v.s.size ≤ Rows.uptoBulk x.1 ∧ rgV v := by
  obtain ⟨xs, n', rfl, rfl, hl, hx, hf⟩ := DataW.trod_struct Tryz.underlying30 h
  have hl4 : cs.length = 4 := by rw [hl]; kernel_rfl
  have hx4 : xs.length = 4 := hx
  obtain ⟨z0, e0, _⟩ := DataW.trod_int (k := .i64) (by kernel_rfl) ((hf 0 _ rfl).trans (List.getElem?_eq_getElem (by omega)))
  obtain ⟨z1, e1, g1, hw1⟩ := DataW.trod_int (k := .i64) (by kernel_rfl) ((hf 1 _ rfl).trans (List.getElem?_eq_getElem (by omega)))
  obtain ⟨b2, e2, _⟩ := DataW.trod_bool (by kernel_rfl) ((hf 2 _ rfl).trans (List.getElem?_eq_getElem (by omega)))
  obtain ⟨s3, e3, g3, _⟩ := DataW.trod_string (by kernel_rfl) ((hf 3 _ rfl).trans (List.getElem?_eq_getElem (by omega)))
  have k0 := cells1 (by kernel_rfl) e0
  have k1 := cells1 (by kernel_rfl) e1
  have k2 := cells1 (by kernel_rfl) e2
  have k3 := cells1 (by kernel_rfl) e3
  refine ⟨⟨z0, z1, b2, s3⟩, list_eq hl4 (fun i v hv => ?_), ?_, ?_⟩
  · match i with
    | 0 => cases hv; exact k0
    | 1 => cases hv; exact k1
    | 2 => cases hv; exact k2
    | 3 => cases hv; exact k3
    | n + 4 => simp at hv
  · have h1 := bulks.part_le (List.mem_map_of_mem (f := fun (x : DataW H × List MemPlace) => x.1) (List.getElem_mem (l := xs) (n := 3) (by omega)))
    have h2 : Rows.uptoBulk (DataW.agg (xs.map (·.1))) = Rows.uptoBulkAll (xs.map (·.1)) + 1 := by rw [Rows.uptoBulk]
    rw [g3] at h1
    simp only [bulks.string_eq] at h1
    have h3 : s3.data.toList.length = s3.size := by rw [Array.length_toList]; rfl
    simp only at h1 ⊢; omega
  · simp only [Lit.wf, Bool.and_eq_true, decide_eq_true_eq] at hw1
    exact hw1.2
set_option maxRecDepth 100000 in
theorem trod_expr2 : ∀ (n : Nat) (cs : List Value) (x : DataW H × List MemPlace), TR enc w n 34 cs = some x → Rows.uptoBulk x.1 ≤ 1048576 → ∃ e : TExpr, RepDs (seen w).h (dsOf e) cs ∧ (smE e ∧ rgE e) ∧ szE e ≤ Rows.uptoBulk x.1 := by
  intro n
  induction n using Nat.strongRecOn with
  | ind n ih =>
  intro cs x h hb
  obtain ⟨xs, n', rfl, rfl, hl, hx, hf⟩ := DataW.trod_struct Tryz.underlying34 h
  have hl4 : cs.length = 10 := by rw [hl]; kernel_rfl
  have hx4 : xs.length = 7 := hx
  obtain ⟨z0, e0, _⟩ := DataW.trod_int (k := .i64) (by kernel_rfl) ((hf 0 _ rfl).trans (List.getElem?_eq_getElem (by omega)))
  obtain ⟨z1, e1, _⟩ := DataW.trod_int (k := .i64) (by kernel_rfl) ((hf 1 _ rfl).trans (List.getElem?_eq_getElem (by omega)))
  obtain ⟨s2, e2, g2, _⟩ := DataW.trod_string (by kernel_rfl) ((hf 2 _ rfl).trans (List.getElem?_eq_getElem (by omega)))
  obtain ⟨s3, e3, g3, _⟩ := DataW.trod_string (by kernel_rfl) ((hf 3 _ rfl).trans (List.getElem?_eq_getElem (by omega)))
  obtain ⟨v4, e4, g4, q4⟩ := trod_value2 ((hf 4 _ rfl).trans (List.getElem?_eq_getElem (by omega)))
  obtain ⟨z5, e5, _⟩ := DataW.trod_int (k := .i64) (by kernel_rfl) ((hf 5 _ rfl).trans (List.getElem?_eq_getElem (by omega)))
  have b2 := bulk_part (xs := xs) (i := 2) (by omega)
  have b3 := bulk_part (xs := xs) (i := 3) (by omega)
  have b6 := bulk_part (xs := xs) (i := 6) (by omega)
  have c2 := bulk_str' g2
  have c3 := bulk_str' g3
  obtain ⟨l, v6, e6, r6, m6, k6, s6⟩ := trod_row2 dsOf (fun e => smE e ∧ rgE e) szE (z := 10) (e := 34) (by decide) (by kernel_rfl) (by kernel_rfl) (fun n hn cs x hx hb => ih n (by omega) cs x hx hb) ((hf 6 _ rfl).trans (List.getElem?_eq_getElem (by omega))) (by simp only at hb; omega)
  have k0 := cells1 (by kernel_rfl) e0
  have k1 := cells1 (by kernel_rfl) e1
  have k2 := cells1 (by kernel_rfl) e2
  have k3 := cells1 (by kernel_rfl) e3
  have k5 := cells1 (by kernel_rfl) e5
  have k6' := cells1 (by kernel_rfl) e6
  have k4 : ∀ i, i < 4 → cs[4 + i]? = [Value.int .i64 v4.t, .int .i64 v4.i, .bool v4.b, .string v4.s][i]? := fun i hi => by
    have e4' : (cs.drop 4).take (Tryz.prog.cellsOf 30) = _ := e4
    rw [show Tryz.prog.cellsOf 30 = 4 by kernel_rfl] at e4'
    rw [← e4', List.getElem?_take, if_pos hi, List.getElem?_drop]
  obtain rfl : cs = [.int .i64 z0, .int .i64 z1, .string s2, .string s3, .int .i64 v4.t, .int .i64 v4.i, .bool v4.b, .string v4.s, .int .i64 z5, v6] := list_eq hl4 (fun i v hv => by
    match i with
    | 0 => cases hv; exact k0
    | 1 => cases hv; exact k1
    | 2 => cases hv; exact k2
    | 3 => cases hv; exact k3
    | 4 => cases hv; exact k4 0 (by decide)
    | 5 => cases hv; exact k4 1 (by decide)
    | 6 => cases hv; exact k4 2 (by decide)
    | 7 => cases hv; exact k4 3 (by decide)
    | 8 => cases hv; exact k5
    | 9 => cases hv; exact k6'
    | n + 10 => simp at hv)
  refine ⟨.mk z0 z1 s2 s3 v4 z5 l, ?_, ?_, ?_⟩
  · refine ⟨_, _, rfl, .int _ _, _, _, rfl, .int _ _, _, _, rfl, .str _, _, _, rfl, .str _, _, _, rfl, .int _ _, _, _, rfl, .int _ _, _, _, rfl, .bool _, _, _, rfl, .str _, _, _, rfl, .int _ _, _, _, rfl, ?_, rfl⟩
    rw [dsAll_map]; exact r6
  · simp only at hb
    refine ⟨⟨by omega, by omega, by omega, smEs_of fun e h => (m6 e h).1⟩, ?_⟩
    rw [rgE]; exact ⟨q4, rgEs_of fun e h => (m6 e h).2⟩
  · have j1 := agg_sum (xs := xs)
    rw [sum7 hx4] at j1
    rw [szE, szEs_map]
    simp only at hb ⊢
    omega
set_option maxRecDepth 100000 in
theorem trod_stmt2 : ∀ (n : Nat) (cs : List Value) (x : DataW H × List MemPlace), TR enc w n 87 cs = some x → Rows.uptoBulk x.1 ≤ 1048576 → ∃ s : TStmt, RepDs (seen w).h (sD s) cs ∧ (smS s ∧ rgS s) ∧ szS s ≤ Rows.uptoBulk x.1 := by
  intro n
  induction n using Nat.strongRecOn with
  | ind n ih =>
  intro cs x h hb
  obtain ⟨xs, n', rfl, rfl, hl, hx, hf⟩ := DataW.trod_struct Tryz.underlying87 h
  have hl4 : cs.length = 16 := by rw [hl]; kernel_rfl
  have hx4 : xs.length = 7 := hx
  have b2 := bulk_part (xs := xs) (i := 2) (by omega)
  have b3 := bulk_part (xs := xs) (i := 3) (by omega)
  have b4 := bulk_part (xs := xs) (i := 4) (by omega)
  have b5 := bulk_part (xs := xs) (i := 5) (by omega)
  simp only at hb
  obtain ⟨z0, e0, _⟩ := DataW.trod_int (k := .i64) (by kernel_rfl) ((hf 0 _ rfl).trans (List.getElem?_eq_getElem (by omega)))
  obtain ⟨z1, e1, _⟩ := DataW.trod_int (k := .i64) (by kernel_rfl) ((hf 1 _ rfl).trans (List.getElem?_eq_getElem (by omega)))
  obtain ⟨s2, e2, g2, _⟩ := DataW.trod_string (by kernel_rfl) ((hf 2 _ rfl).trans (List.getElem?_eq_getElem (by omega)))
  obtain ⟨e3, r3, ⟨m3, w3⟩, s3⟩ := trod_expr2 _ _ _ ((hf 3 _ rfl).trans (List.getElem?_eq_getElem (by omega))) (by omega)
  obtain ⟨l4, v4, e4, r4, m4, k4, s4⟩ := trod_row2 (fun s => sD s) (fun s => smS s ∧ rgS s) szS (z := 16) (e := 87) (by decide) (by kernel_rfl) (by kernel_rfl) (fun n hn cs x hx hb => ih n (by omega) cs x hx hb) ((hf 4 _ rfl).trans (List.getElem?_eq_getElem (by omega))) (by omega)
  obtain ⟨l5, v5, e5, r5, m5, k5, s5⟩ := trod_row2 (fun s => sD s) (fun s => smS s ∧ rgS s) szS (z := 16) (e := 87) (by decide) (by kernel_rfl) (by kernel_rfl) (fun n hn cs x hx hb => ih n (by omega) cs x hx hb) ((hf 5 _ rfl).trans (List.getElem?_eq_getElem (by omega))) (by omega)
  obtain ⟨z6, e6, _⟩ := DataW.trod_bool (by kernel_rfl) ((hf 6 _ rfl).trans (List.getElem?_eq_getElem (by omega)))
  have c2 := bulk_str' g2
  have k0 := cells1 (by kernel_rfl) e0
  have k1 := cells1 (by kernel_rfl) e1
  have k2 := cells1 (by kernel_rfl) e2
  have k4' := cells1 (by kernel_rfl) e4
  have k5' := cells1 (by kernel_rfl) e5
  have k6 := cells1 (by kernel_rfl) e6
  have r3' : RepDs (seen w).h (dsOf e3) ((cs.drop 3).take (Tryz.prog.cellsOf 34)) := r3
  rw [show Tryz.prog.cellsOf 34 = 10 by kernel_rfl, dsOf_eq] at r3'
  refine ⟨.mk z0 z1 s2 e3 l4 l5 z6, ?_, ?_, ?_⟩
  · refine RepDs.cut (a := [cZ z0, cZ z1, .str s2]) (b := eD e3) (c := [.sl 16 (ssAll l4), .sl 16 (ssAll l5), .bool z6]) 3 10 ?_ r3' ?_
    · rw [take_eq (n := 3) (r := [.int .i64 z0, .int .i64 z1, .string s2]) (by omega) rfl (fun i v hv => by
        match i with
        | 0 => cases hv; exact k0
        | 1 => cases hv; exact k1
        | 2 => cases hv; exact k2
        | n + 3 => simp at hv)]
      exact ⟨_, _, rfl, .int _ _, _, _, rfl, .int _ _, _, _, rfl, .str _, rfl⟩
    · rw [drop_eq (n := 13) (r := [v4, v5, .bool z6]) (by rw [hl4]; rfl) (fun i v hv => by
        match i with
        | 0 => cases hv; exact k4'
        | 1 => cases hv; exact k5'
        | 2 => cases hv; exact k6
        | n + 3 => simp at hv)]
      rw [ssAll_map, ssAll_map]
      exact ⟨_, _, rfl, r4, _, _, rfl, r5, _, _, rfl, .bool _, rfl⟩
  · refine ⟨⟨by omega, m3, by omega, by omega, smSs_of fun e h => (m4 e h).1, smSs_of fun e h => (m5 e h).1⟩, ?_⟩
    rw [rgS]; exact ⟨w3, rgSs_of fun e h => (m4 e h).2, rgSs_of fun e h => (m5 e h).2⟩
  · have j1 := agg_sum (xs := xs)
    rw [sum7 hx4] at j1
    rw [szS, szSs_map, szSs_map]
    simp only at hb ⊢
    omega
set_option maxRecDepth 100000 in
theorem trod_param2 (n : Nat) (cs : List Value) (x : DataW H × List MemPlace) (h : TR enc w n 83 cs = some x) (hb : Rows.uptoBulk x.1 ≤ 1048576) : ∃ p : TParam, RepDs (seen w).h (pD p) cs ∧ p.nm.size ≤ 1048576 ∧ 1 + p.nm.size ≤ Rows.uptoBulk x.1 := by
  obtain ⟨xs, n', rfl, rfl, hl, hx, hf⟩ := DataW.trod_struct Tryz.underlying83 h
  have hl4 : cs.length = 2 := by rw [hl]; kernel_rfl
  have hx4 : xs.length = 2 := hx
  have b0 := bulk_part (xs := xs) (i := 0) (by omega)
  simp only at hb
  obtain ⟨s0, e0, g0, _⟩ := DataW.trod_string (by kernel_rfl) ((hf 0 _ rfl).trans (List.getElem?_eq_getElem (by omega)))
  obtain ⟨z1, e1, _⟩ := DataW.trod_int (k := .i64) (by kernel_rfl) ((hf 1 _ rfl).trans (List.getElem?_eq_getElem (by omega)))
  have c0 := bulk_str' g0
  have k0 := cells1 (by kernel_rfl) e0
  have k1 := cells1 (by kernel_rfl) e1
  obtain rfl : cs = [.string s0, .int .i64 z1] := list_eq hl4 (fun i v hv => by
    match i with
    | 0 => cases hv; exact k0
    | 1 => cases hv; exact k1
    | n + 2 => simp at hv)
  exact ⟨⟨s0, z1⟩, ⟨_, _, rfl, .str _, _, _, rfl, .int _ _, rfl⟩, by simp only; omega, by simp only; omega⟩
set_option maxRecDepth 100000 in
theorem trod_incl2 (n : Nat) (cs : List Value) (x : DataW H × List MemPlace) (h : TR enc w n 76 cs = some x) (hb : Rows.uptoBulk x.1 ≤ 1048576) : ∃ p : TIncl, RepDs (seen w).h (iD p) cs ∧ (p.nm.size ≤ 1048576 ∧ p.p.size ≤ 1048576) ∧ szI p ≤ Rows.uptoBulk x.1 := by
  obtain ⟨xs, n', rfl, rfl, hl, hx, hf⟩ := DataW.trod_struct Tryz.underlying76 h
  have hl4 : cs.length = 3 := by rw [hl]; kernel_rfl
  have hx4 : xs.length = 3 := hx
  have b0 := bulk_part (xs := xs) (i := 0) (by omega)
  have b1 := bulk_part (xs := xs) (i := 1) (by omega)
  simp only at hb
  obtain ⟨s0, e0, g0, _⟩ := DataW.trod_string (by kernel_rfl) ((hf 0 _ rfl).trans (List.getElem?_eq_getElem (by omega)))
  obtain ⟨s1, e1, g1, _⟩ := DataW.trod_string (by kernel_rfl) ((hf 1 _ rfl).trans (List.getElem?_eq_getElem (by omega)))
  obtain ⟨z2, e2, _⟩ := DataW.trod_int (k := .i64) (by kernel_rfl) ((hf 2 _ rfl).trans (List.getElem?_eq_getElem (by omega)))
  have c0 := bulk_str' g0
  have c1 := bulk_str' g1
  have k0 := cells1 (by kernel_rfl) e0
  have k1 := cells1 (by kernel_rfl) e1
  have k2 := cells1 (by kernel_rfl) e2
  obtain rfl : cs = [.string s0, .string s1, .int .i64 z2] := list_eq hl4 (fun i v hv => by
    match i with
    | 0 => cases hv; exact k0
    | 1 => cases hv; exact k1
    | 2 => cases hv; exact k2
    | n + 3 => simp at hv)
  have j1 := agg_sum (xs := xs)
  rw [sum3 hx4] at j1
  exact ⟨⟨s0, s1, z2⟩, ⟨_, _, rfl, .str _, _, _, rfl, .str _, _, _, rfl, .int _ _, rfl⟩, ⟨by simp only; omega, by simp only; omega⟩, by unfold szI; simp only; omega⟩
set_option maxRecDepth 100000 in
theorem trod_const2 (n : Nat) (cs : List Value) (x : DataW H × List MemPlace) (h : TR enc w n 53 cs = some x) (hb : Rows.uptoBulk x.1 ≤ 1048576) : ∃ c : TCons, RepDs (seen w).h (cD c) cs ∧ ((c.nm.size ≤ 1048576 ∧ smE c.e) ∧ rgE c.e) ∧ szC c ≤ Rows.uptoBulk x.1 := by
  obtain ⟨xs, n', rfl, rfl, hl, hx, hf⟩ := DataW.trod_struct Tryz.underlying53 h
  have hl4 : cs.length = 13 := by rw [hl]; kernel_rfl
  have hx4 : xs.length = 4 := hx
  have b0 := bulk_part (xs := xs) (i := 0) (by omega)
  have b3 := bulk_part (xs := xs) (i := 3) (by omega)
  simp only at hb
  obtain ⟨s0, e0, g0, _⟩ := DataW.trod_string (by kernel_rfl) ((hf 0 _ rfl).trans (List.getElem?_eq_getElem (by omega)))
  obtain ⟨z1, e1, _⟩ := DataW.trod_bool (by kernel_rfl) ((hf 1 _ rfl).trans (List.getElem?_eq_getElem (by omega)))
  obtain ⟨z2, e2, _⟩ := DataW.trod_int (k := .i64) (by kernel_rfl) ((hf 2 _ rfl).trans (List.getElem?_eq_getElem (by omega)))
  obtain ⟨e3, r3, ⟨m3, w3⟩, s3⟩ := trod_expr2 _ _ _ ((hf 3 _ rfl).trans (List.getElem?_eq_getElem (by omega))) (by omega)
  have c0 := bulk_str' g0
  have k0 := cells1 (by kernel_rfl) e0
  have k1 := cells1 (by kernel_rfl) e1
  have k2 := cells1 (by kernel_rfl) e2
  have r3' : RepDs (seen w).h (dsOf e3) ((cs.drop 3).take (Tryz.prog.cellsOf 34)) := r3
  rw [show Tryz.prog.cellsOf 34 = 10 by kernel_rfl, dsOf_eq] at r3'
  have j1 := agg_sum (xs := xs)
  rw [sum4 hx4] at j1
  refine ⟨⟨s0, z1, z2, e3⟩, ?_, ⟨⟨by simp only; omega, m3⟩, w3⟩, by unfold szC; simp only; omega⟩
  refine RepDs.cut (a := [.str s0, .bool z1, cZ z2]) (b := eD e3) (c := []) 3 10 ?_ r3' ?_
  · rw [take_eq (n := 3) (r := [.string s0, .bool z1, .int .i64 z2]) (by omega) rfl (fun i v hv => by
      match i with
      | 0 => cases hv; exact k0
      | 1 => cases hv; exact k1
      | 2 => cases hv; exact k2
      | n + 3 => simp at hv)]
    exact ⟨_, _, rfl, .str _, _, _, rfl, .bool _, _, _, rfl, .int _ _, rfl⟩
  · rw [drop_eq (n := 13) (r := []) (by rw [hl4]; rfl) (fun i v hv => by simp at hv)]
    rfl
set_option maxRecDepth 100000 in
theorem trod_func2 (n : Nat) (cs : List Value) (x : DataW H × List MemPlace) (h : TR enc w n 51 cs = some x) (hb : Rows.uptoBulk x.1 ≤ 1048576) : ∃ f : TFunc, RepDs (seen w).h (fD f) cs ∧ (SmF f ∧ rgSs f.body) ∧ szF f ≤ Rows.uptoBulk x.1 := by
  obtain ⟨xs, n', rfl, rfl, hl, hx, hf⟩ := DataW.trod_struct Tryz.underlying51 h
  have hl4 : cs.length = 6 := by rw [hl]; kernel_rfl
  have hx4 : xs.length = 6 := hx
  have b0 := bulk_part (xs := xs) (i := 0) (by omega)
  have b3 := bulk_part (xs := xs) (i := 3) (by omega)
  have b5 := bulk_part (xs := xs) (i := 5) (by omega)
  simp only at hb
  obtain ⟨s0, e0, g0, _⟩ := DataW.trod_string (by kernel_rfl) ((hf 0 _ rfl).trans (List.getElem?_eq_getElem (by omega)))
  obtain ⟨z1, e1, _⟩ := DataW.trod_bool (by kernel_rfl) ((hf 1 _ rfl).trans (List.getElem?_eq_getElem (by omega)))
  obtain ⟨z2, e2, _⟩ := DataW.trod_int (k := .i64) (by kernel_rfl) ((hf 2 _ rfl).trans (List.getElem?_eq_getElem (by omega)))
  obtain ⟨l3, v3, e3, r3, m3, n3, s3⟩ := trod_row2 (fun p => pD p) (fun p : TParam => p.nm.size ≤ 1048576) (fun p => 1 + p.nm.size) (z := 2) (e := 83) (by decide) (by kernel_rfl) (by kernel_rfl) (fun n hn cs x hx hb => trod_param2 n cs x hx hb) ((hf 3 _ rfl).trans (List.getElem?_eq_getElem (by omega))) (by omega)
  obtain ⟨z4, e4, _⟩ := DataW.trod_int (k := .i64) (by kernel_rfl) ((hf 4 _ rfl).trans (List.getElem?_eq_getElem (by omega)))
  obtain ⟨l5, v5, e5, r5, m5, n5, s5⟩ := trod_row2 (fun s => sD s) (fun s => smS s ∧ rgS s) szS (z := 16) (e := 87) (by decide) (by kernel_rfl) (by kernel_rfl) (fun n hn cs x hx hb => trod_stmt2 n cs x hx hb) ((hf 5 _ rfl).trans (List.getElem?_eq_getElem (by omega))) (by omega)
  have c0 := bulk_str' g0
  have k0 := cells1 (by kernel_rfl) e0
  have k1 := cells1 (by kernel_rfl) e1
  have k2 := cells1 (by kernel_rfl) e2
  have k3 := cells1 (by kernel_rfl) e3
  have k4 := cells1 (by kernel_rfl) e4
  have k5 := cells1 (by kernel_rfl) e5
  obtain rfl : cs = [.string s0, .bool z1, .int .i64 z2, v3, .int .i64 z4, v5] := list_eq hl4 (fun i v hv => by
    match i with
    | 0 => cases hv; exact k0
    | 1 => cases hv; exact k1
    | 2 => cases hv; exact k2
    | 3 => cases hv; exact k3
    | 4 => cases hv; exact k4
    | 5 => cases hv; exact k5
    | n + 6 => simp at hv)
  rw [← ssAll_map] at r5
  have j1 := agg_sum (xs := xs)
  rw [sum6 hx4] at j1
  exact ⟨⟨s0, z1, z2, l3, z4, l5⟩, ⟨_, _, rfl, .str _, _, _, rfl, .bool _, _, _, rfl, .int _ _, _, _, rfl, r3, _, _, rfl, .int _ _, _, _, rfl, r5, rfl⟩, ⟨⟨by simp only; omega, by simp only; omega, m3, by simp only; omega, smSs_of fun e h => (m5 e h).1⟩, rgSs_of fun e h => (m5 e h).2⟩, by unfold szF; simp only; rw [szSs_map]; omega⟩
set_option maxRecDepth 100000 in
theorem trod_mod2 (n : Nat) (cs : List Value) (x : DataW H × List MemPlace) (h : TR enc w n 26 cs = some x) (hb : Rows.uptoBulk x.1 ≤ 1048576) : ∃ m : TMod, RepDs (seen w).h (mD m) cs ∧ ((SmM m ∧ ∀ i ∈ m.is, i.p.size ≤ 1048576) ∧ RgM m) ∧ szM m ≤ Rows.uptoBulk x.1 := by
  obtain ⟨xs, n', rfl, rfl, hl, hx, hf⟩ := DataW.trod_struct Tryz.underlying26 h
  have hl4 : cs.length = 3 := by rw [hl]; kernel_rfl
  have hx4 : xs.length = 3 := hx
  have b0 := bulk_part (xs := xs) (i := 0) (by omega)
  have b1 := bulk_part (xs := xs) (i := 1) (by omega)
  have b2 := bulk_part (xs := xs) (i := 2) (by omega)
  simp only at hb
  obtain ⟨l0, v0, e0, r0, m0, n0, s0⟩ := trod_row2 (fun p => iD p) (fun p : TIncl => p.nm.size ≤ 1048576 ∧ p.p.size ≤ 1048576) szI (z := 3) (e := 76) (by decide) (by kernel_rfl) (by kernel_rfl) (fun n hn cs x hx hb => trod_incl2 n cs x hx hb) ((hf 0 _ rfl).trans (List.getElem?_eq_getElem (by omega))) (by omega)
  obtain ⟨l1, v1, e1, r1, m1, n1, s1⟩ := trod_row2 (fun p => cD p) (fun c : TCons => (c.nm.size ≤ 1048576 ∧ smE c.e) ∧ rgE c.e) szC (z := 13) (e := 53) (by decide) (by kernel_rfl) (by kernel_rfl) (fun n hn cs x hx hb => trod_const2 n cs x hx hb) ((hf 1 _ rfl).trans (List.getElem?_eq_getElem (by omega))) (by omega)
  obtain ⟨l2, v2, e2, r2, m2, n2, s2⟩ := trod_row2 (fun p => fD p) (fun f => SmF f ∧ rgSs f.body) szF (z := 6) (e := 51) (by decide) (by kernel_rfl) (by kernel_rfl) (fun n hn cs x hx hb => trod_func2 n cs x hx hb) ((hf 2 _ rfl).trans (List.getElem?_eq_getElem (by omega))) (by omega)
  have k0 := cells1 (by kernel_rfl) e0
  have k1 := cells1 (by kernel_rfl) e1
  have k2 := cells1 (by kernel_rfl) e2
  obtain rfl : cs = [v0, v1, v2] := list_eq hl4 (fun i v hv => by
    match i with
    | 0 => cases hv; exact k0
    | 1 => cases hv; exact k1
    | 2 => cases hv; exact k2
    | n + 3 => simp at hv)
  have j1 := agg_sum (xs := xs)
  rw [sum3 hx4] at j1
  exact ⟨⟨l0, l1, l2⟩, ⟨_, _, rfl, r0, _, _, rfl, r1, _, _, rfl, r2, rfl⟩, ⟨⟨⟨by simp only; omega, by simp only; omega, by simp only; omega, fun i hi => (m0 i hi).1, fun c hc => (m1 c hc).1, fun f hf => (m2 f hf).1⟩, fun i hi => (m0 i hi).2⟩, ⟨fun c hc => (m1 c hc).2, fun f hf => (m2 f hf).2⟩⟩, by unfold szM; simp only; omega⟩
end
end Go.Proofs.YtaddhpeainliiaaGreatDoor.Id
/-! ## PrN -/
namespace Go.Proofs.YtaddhpeainliiaaGreatDoor.Id
open Go
set_option linter.unusedVariables false
set_option linter.unusedSimpArgs false
set_option maxRecDepth 100000
section
variable {X : Given}
abbrev tabMax : Int := 1099511627776
/-- a statement is written by the program -/
def StmtOK (X : Given) (s : TStmt) : Prop := ∀ p : PSt, Pg p → p.tabs + szS s ≤ tabMax → Bd (wS litP s p) → Does X 179 [.box base 0, .agg (sD s)] [pW p] (.ret (.tuple []) [pW (wS litP s p)])
def BranchOK (X : Given) (s : TStmt) : Prop := ∀ p : PSt, Pg p → p.tabs + szS s ≤ tabMax → Bd (wS litP s p) → Does X 201 [.box base 0, .agg (sD s)] [pW p] (.ret (.tuple []) [pW (wS litP s p)])
theorem sc_eff {s : TStmt} (h : (sc litP s).ok) {p : PSt} (hg : Pg p) : wS litP s p = eff (rS litP s p.tight p.tabs) 0 (upS s) p := (h p.tabs hg.tabs).2.2 p rfl hg.most
theorem sc_pg {s : TStmt} (h : (sc litP s).ok) {p : PSt} (hg : Pg p) : Pg (wS litP s p) := by rw [sc_eff h hg]; exact hg.eff _ _ _
theorem sc_tabs {s : TStmt} (h : (sc litP s).ok) {p : PSt} (hg : Pg p) : (wS litP s p).tabs = p.tabs := by rw [sc_eff h hg]; rfl
theorem pgap_tabs (s : List UInt8) (p : PSt) : (pgap s p).tabs = p.tabs := by unfold pgap; split <;> rfl
theorem gw_wSs (r : List TStmt) : Gw (wLines (wSs litP r)) := gw_lines _ fun f hf => by
  rw [wSs_map] at hf
  obtain ⟨x, _, rfl⟩ := List.mem_map.1 hf
  exact gw_s x
set_option maxHeartbeats 2000000 in
theorem blk_loop (hP : LibP X) (l : List TStmt) (hk : l.length ≤ 1000000000) (hS : ∀ x ∈ l, StmtOK X x ∧ (sc litP x).ok) (i : Int) (hi : 0 ≤ i) (him : i + szSs l ≤ tabMax) (p9 : PSt) (hB9 : Bd p9) (K : Ex → St → Id.T Out) (Q : Out → Prop)
    (hK : Pg p9 → p9.tabs = i → WP X (K (.exit 0) ⟨[(0, .box base 0)], [(base, pW p9)]⟩) Q) :
    ∀ (r p : List TStmt) (q : PSt), l = p ++ r → wLines (wSs litP r) q = p9 → Pg q → q.tabs = i → ∀ σ : St, getT σ.t 0 = .box base 0 → getT σ.t 15 = .d (.sl 16 (ssAll l)) → getT σ.t 16 = vI (ssAll l).length → getT σ.t 17 = vI p.length → getB σ.b base = some (pW q) → WP X (.loop (lp Tryz.f147 0) σ K) Q
  | r, p, q, h, hq, hg, hqi, σ, g0, g15, g16, g17, gb => by
    refine WP.round ⟨[(0, .box base 0), (15, .d (.sl 16 (ssAll l))), (16, vI (ssAll l).length), (17, vI p.length)], [(base, pW q)]⟩ ⟨⟨.inl g0.symm, .inl g15.symm, .inl g16.symm, .inl g17.symm, trivial⟩, ⟨WkB.box gb, trivial⟩⟩ ?_
    have hlen : l.length = p.length + r.length := by rw [h]; simp
    cases r with
    | nil =>
      refine WP.iteF (by rw [ssAll_len]; simp at hlen; simp; omega) ?_
      rw [wSs, wLines] at hq
      subst hq
      exact WP.leaf ⟨⟨[(0, .box base 0)], [(base, pW q)]⟩, ⟨⟨.inl rfl, trivial⟩, ⟨WkB.box rfl, trivial⟩⟩, hK hg hqi⟩
    | cons y r =>
      simp only [List.length_cons] at hlen
      obtain ⟨hy, hok⟩ := hS y (by rw [h]; simp)
      rw [wSs, wLines] at hq
      have hys : szS y ≤ szSs l := by rw [szSs_map]; exact sumN_mem szS (by rw [h]; simp)
      have b2 : Bd (wS litP y (pline q)) := (hq ▸ hB9 : Bd _).of (gw_wSs _ _)
      have b1 : Bd (pline q) := b2.of (gw_s y _)
      have hg1 : Pg (pline q) := hg.gap _
      have ht1 : (pline q).tabs = i := by rw [← hqi]; exact pgap_tabs _ _
      have hyp := szS_pos y
      refine WP.iteT (by rw [ssAll_len]; simp; omega) ?_
      refine WP.idx _ (by omega) (ssAll_get h) ?_
      refine WP.use1 (line_does hP q hg.tabs (by unfold tabMax at him; omega) b1) ?_
      refine WP.use1 (hy (pline q) hg1 (by rw [ht1]; omega) b2) ?_
      refine WP.leaf ?_
      refine blk_loop hP l hk hS i hi him p9 hB9 K Q hK r (p ++ [y]) _ (by rw [h]; simp) hq (sc_pg hok hg1) (by rw [sc_tabs hok hg1, ht1]) _ rfl rfl rfl ?_ rfl
      show vI (IntKind.i64.wrap ((p.length : Int) + 1)) = _
      rw [wrapI (by omega) (by omega)]; simp
def tabUp (p : PSt) : PSt := { p with tabs := p.tabs + 1 }
def tabDn (p : PSt) : PSt := { p with tabs := p.tabs - 1 }
theorem wBlk_eq (fs : List (PSt → PSt)) (p : PSt) : wBlk fs p = ptok [125] (pline (tabDn (wLines fs (tabUp (ptok [123] p))))) := rfl
theorem blk_w (hP : LibP X) (l : List TStmt) (hk : l.length ≤ 1000000000) (hS : ∀ x ∈ l, StmtOK X x ∧ (sc litP x).ok) (p : PSt) (hg : Pg p) (ht : p.tabs + szSs l + 1 ≤ tabMax) (hB : Bd (wBlk (wSs litP l) p)) : Does X 147 [.box base 0, .d (.sl 16 (ssAll l))] [pW p] (.ret (.tuple []) [pW (wBlk (wSs litP l) p)]) := by
  rw [wBlk_eq] at hB ⊢
  have h0 : 0 ≤ p.tabs := hg.tabs
  unfold tabMax at ht
  have hw : IntKind.i64.wrap (p.tabs + 1) = p.tabs + 1 := wrapI (by omega) (by omega)
  obtain ⟨q, hq⟩ : ∃ q, q = ptok [123] p := ⟨_, rfl⟩
  have hqt : q.tabs = p.tabs := by rw [hq]; unfold ptok; rw [if_pos (.inl rfl)]; rfl
  have hqg : Pg q := by rw [hq]; exact hg.open (.inl rfl)
  rw [← hq] at hB ⊢
  have b3 := hB.of (gw_tok [125] _)
  have b2 := b3.of (gw_line _)
  have b2' : Bd (wLines (wSs litP l) (tabUp q)) := b2
  have b1 : Bd q := (b2'.of (gw_wSs l (tabUp q)) : Bd (tabUp q))
  have b0 : Bd (ptok [123] p) := by rw [← hq]; exact b1
  have hg1 : Pg (tabUp q) := ⟨hqg.lv, hqg.most, by show 0 ≤ q.tabs + 1; omega⟩
  have htk0 := tok_lit hP p hg [123] (by simp) b0
  rw [← hq] at htk0
  refine DoesQ.eq (DoesQ.of Tryz.func147 (by kernel_rfl) ?_)
  refine WP.use1 htk0 ?_
  refine blk_loop hP l hk hS (q.tabs + 1) (by omega) (by unfold tabMax; omega) _ b2' _ _ ?_ l [] (tabUp q) rfl rfl hg1 rfl _ rfl rfl rfl rfl ?_
  · intro hg9 ht9
    obtain ⟨r, hr⟩ : ∃ r, r = wLines (wSs litP l) (tabUp q) := ⟨_, rfl⟩
    rw [← hr] at hg9 ht9 b3 hB ⊢
    have hw2 : IntKind.i64.wrap (r.tabs - 1) = r.tabs - 1 := wrapI (by omega) (by omega)
    have hg2 : Pg (tabDn r) := ⟨hg9.lv, hg9.most, by show 0 ≤ r.tabs - 1; omega⟩
    have htk := tok_lit hP (pline (tabDn r)) (hg2.gap (10 :: List.replicate (r.tabs - 1).toNat 9)) [125] (by simp) hB
    have he : ∀ z, z = r.tabs - 1 → (V.box base 0 :: .own (base, 1) 1 (r.out.map byteD) :: [vB r.tight, vC r.last, vI z, vI r.lv, vI r.most]) = pW (tabDn r) := fun z e => by subst e; rfl
    have hln : Does X 178 [.box base 0] [.box base 0 :: .own (base, 1) 1 (r.out.map byteD) :: [vB r.tight, vC r.last, vI (IntKind.i64.wrap (r.tabs - 1)), vI r.lv, vI r.most]] (.ret (.tuple []) [pW (pline (tabDn r))]) := by
      rw [he _ hw2]; exact line_does hP (tabDn r) (by show 0 ≤ r.tabs - 1; omega) (by show r.tabs - 1 ≤ _; omega) b3
    refine WP.use1 hln ?_
    refine WP.use1 htk ?_
    exact WP.leaf rfl
  · show some (V.box base 0 :: .own (base, 1) 1 (q.out.map byteD) :: [vB q.tight, vC q.last, vI (IntKind.i64.wrap (q.tabs + 1)), vI q.lv, vI q.most]) = _
    rw [hqt, hw, ← hqt]
    rfl
end
end Go.Proofs.YtaddhpeainliiaaGreatDoor.Id
/-! ## PrNb -/
namespace Go.Proofs.YtaddhpeainliiaaGreatDoor.Id
open Go
set_option linter.unusedVariables false
set_option linter.unusedSimpArgs false
set_option maxRecDepth 100000
section
variable {X : Given}
theorem ptok_tabs (s : List UInt8) (p : PSt) : (ptok s p).tabs = p.tabs := by
  unfold ptok
  split
  · rfl
  · split <;> rfl
theorem e_keep {e : TExpr} (h : rightE e = true) {p : PSt} (hg : Pg p) : Pg (wE litP e p) ∧ (wE litP e p).tabs = p.tabs := by
  obtain ⟨l, hi⟩ := expr_is lit_facts _ e (Nat.lt_succ_self _) h
  rw [hi.2.2 p hg.most]
  exact ⟨hg.eff _ _ _, rfl⟩
theorem b_keep {l : List TStmt} (h : ∀ x ∈ l, (sc litP x).ok) {p : PSt} (hg : Pg p) : Pg (wBlk (wSs litP l) p) ∧ (wBlk (wSs litP l) p).tabs = p.tabs := by
  have hb := blk_is (l := l.map (sc litP)) (fun x hx => by
    obtain ⟨s, hs, rfl⟩ := List.mem_map.1 hx
    exact h s hs) hg.tabs
  rw [sc_f] at hb
  rw [hb.2.2 p rfl hg.most]
  exact ⟨hg.eff _ _ _, rfl⟩
theorem sc_ok {s : TStmt} (h : rightS s = true) : (sc litP s).ok := (stmt_is lit_facts _ s (Nat.lt_succ_self _) h).1
theorem gw_b (l : List TStmt) : Gw (wBlk (wSs litP l)) := gw_blk _ fun f hf => by
  rw [wSs_map] at hf
  obtain ⟨x, _, rfl⟩ := List.mem_map.1 hf
  exact gw_s x
theorem toks3 (hP : LibP X) (a b c : ByteArray) (ha : TkOK a) (hb : TkOK b) (hc : TkOK c) (z : Bool) (p : PSt) (h0 : Fr z p) (hg : Pg p) (hB : Bd (ptok (L c) (pgap [32] (ptok (L b) (pgap [32] (ptok (L a) p)))))) : Does X 106 [.box base 0, .d (.sl 1 [[.str a], [.str b], [.str c]])] [pV z p] (.ret (.tuple []) [pW (ptok (L c) (pgap [32] (ptok (L b) (pgap [32] (ptok (L a) p)))))]) ∧ Pg (ptok (L c) (pgap [32] (ptok (L b) (pgap [32] (ptok (L a) p))))) := by
  have e1 : wToks [a, b, c] true p = ptok (L c) (pgap [32] (ptok (L b) (pgap [32] (ptok (L a) p)))) := by simp [wToks]
  have hall : ∀ s ∈ [a, b, c], TkOK s := fun s hs => by
    simp only [List.mem_cons, List.not_mem_nil, or_false] at hs
    rcases hs with rfl | rfl | rfl
    · exact ha
    · exact hb
    · exact hc
  have h := toks_does hP [a, b, c] (by simp) (by simp) hall z p h0 hg (by rw [e1]; exact hB)
  have h2 := Pg.toks hg [a, b, c] hall true p hg
  rw [e1] at h h2
  exact ⟨h, h2⟩
theorem toks2 (hP : LibP X) (a b : ByteArray) (ha : TkOK a) (hb : TkOK b) (z : Bool) (p : PSt) (h0 : Fr z p) (hg : Pg p) (hB : Bd (ptok (L b) (pgap [32] (ptok (L a) p)))) : Does X 106 [.box base 0, .d (.sl 1 [[.str a], [.str b]])] [pV z p] (.ret (.tuple []) [pW (ptok (L b) (pgap [32] (ptok (L a) p)))]) ∧ Pg (ptok (L b) (pgap [32] (ptok (L a) p))) := by
  have e1 : wToks [a, b] true p = ptok (L b) (pgap [32] (ptok (L a) p)) := by simp [wToks]
  have hall : ∀ s ∈ [a, b], TkOK s := fun s hs => by
    simp only [List.mem_cons, List.not_mem_nil, or_false] at hs
    rcases hs with rfl | rfl
    · exact ha
    · exact hb
  have h := toks_does hP [a, b] (by simp) (by simp) hall z p h0 hg (by rw [e1]; exact hB)
  have h2 := Pg.toks hg [a, b] hall true p hg
  rw [e1] at h h2
  exact ⟨h, h2⟩
set_option maxHeartbeats 8000000 in
theorem branch_w (hP : LibP X) (a : Int) (nm : ByteArray) (e : TExpr) (body els : List TStmt) (he : Bool) (hrE : rightE e = true) (hE : ExprOK X e) (hk : body.length ≤ 1000000000) (hk2 : els.length ≤ 1000000000)
    (hb : ∀ x ∈ body, StmtOK X x ∧ (sc litP x).ok) (hl : ∀ x ∈ els, StmtOK X x ∧ (sc litP x).ok) (hbr : ∀ x ∈ els, x.k = 3 → BranchOK X x) : BranchOK X (.mk 3 a nm e body els he) := fun p hg ht hB => by
  rw [szS] at ht
  rw [wS] at hB ⊢
  unfold wSN at hB ⊢
  rw [if_neg (by decide), if_neg (by decide), if_pos rfl] at hB ⊢
  simp only [] at hB ⊢
  unfold tabMax at ht
  have hg1 : Pg (ptok yIf p) := hg.any (by simp) (by simp)
  have hg2 := e_keep hrE (hg1.gap [32])
  have t2 : (pgap [32] (wE litP e (pgap [32] (ptok yIf p)))).tabs = p.tabs := by rw [pgap_tabs, hg2.2, pgap_tabs, ptok_tabs]
  have hg3 : Pg (pgap [32] (wE litP e (pgap [32] (ptok yIf p)))) := hg2.1.gap _
  have hg4 := b_keep (fun x hx => (hb x hx).2) hg3
  have hq : Bd (wBlk (wSs litP body) (pgap [32] (wE litP e (pgap [32] (ptok yIf p))))) → Does X 71 [.box base 0, vS (mkB yIf)] [pW p] (.ret (.tuple []) [pW (ptok yIf p)]) ∧ Does X 107 [.box base 0, .agg (eD e)] [pW (ptok yIf p)] (.ret (.tuple []) [pW (wE litP e (pgap [32] (ptok yIf p)))]) ∧ Does X 73 [.box base 0, vS (mkB [32])] [pW (wE litP e (pgap [32] (ptok yIf p)))] (.ret (.tuple []) [pW (pgap [32] (wE litP e (pgap [32] (ptok yIf p))))]) ∧ Does X 147 [.box base 0, .d (.sl 16 (ssAll body))] [pW (pgap [32] (wE litP e (pgap [32] (ptok yIf p))))] (.ret (.tuple []) [pW (wBlk (wSs litP body) (pgap [32] (wE litP e (pgap [32] (ptok yIf p)))))]) := fun b4 => by
    have b3 := b4.of (gw_b body _)
    have b2 := b3.of (gw_gap [32] _)
    have b1 := b2.of (gw_e e _)
    have b0 := b1.of (gw_gap [32] _)
    exact ⟨tok_lit hP p hg yIf (by simp) b0, after_does hP e hE _ hg1 b2, gap_lit hP [32] _ b3, blk_w hP body hk hb _ hg3 (by rw [t2]; unfold tabMax; omega) b4⟩
  cases he with
  | false =>
    rw [if_neg (by decide)] at hB ⊢
    obtain ⟨d1, d2, d3, d4⟩ := hq hB
    refine DoesQ.eq (DoesQ.of Tryz.func201 (by kernel_rfl) ?_)
    refine WP.use1 d1 ?_
    refine WP.use1 d2 ?_
    refine WP.use1 d3 ?_
    refine WP.use1 d4 ?_
    refine WP.iteT rfl ?_
    exact WP.leaf rfl
  | true =>
    rw [if_pos rfl] at hB ⊢
    obtain ⟨q, hqq⟩ : ∃ q, q = wBlk (wSs litP body) (pgap [32] (wE litP e (pgap [32] (ptok yIf p)))) := ⟨_, rfl⟩
    rw [← hqq] at hB hq hg4 ⊢
    have hqt : q.tabs = p.tabs := by rw [hg4.2, t2]
    have g1 := hg4.1.gap [32]
    have g2 : Pg (ptok yElse (pgap [32] q)) := g1.any (by simp) (by simp)
    have g3 := g2.gap [32]
    have t3 : (pgap [32] (ptok yElse (pgap [32] q))).tabs = p.tabs := by rw [pgap_tabs, ptok_tabs, pgap_tabs, hqt]
    have hpre : Bd (pgap [32] (ptok yElse (pgap [32] q))) → (∀ K : Out → Id.T Out, WP X (K (.ret (.tuple []) [pW (pgap [32] (ptok yElse (pgap [32] q)))])) (· = .ret (.tuple []) [pW (pgap [32] (ptok yElse (pgap [32] q)))]) → True) ∧ Bd q ∧ Bd (pgap [32] q) ∧ Bd (ptok yElse (pgap [32] q)) := fun b3 => by
      have b2 := b3.of (gw_gap [32] _)
      have b1 := b2.of (gw_tok yElse _)
      exact ⟨fun _ _ => trivial, b1.of (gw_gap [32] _), b1, b2⟩
    have hblk : chained (els.map TStmt.k) = false → Bd (wBlk (wSs litP els) (pgap [32] (ptok yElse (pgap [32] q)))) → Does X 147 [.box base 0, .d (.sl 16 (ssAll els))] [pW (pgap [32] (ptok yElse (pgap [32] q)))] (.ret (.tuple []) [pW (wBlk (wSs litP els) (pgap [32] (ptok yElse (pgap [32] q))))]) := fun _ hB => blk_w hP els hk2 hl _ g3 (by rw [t3]; unfold tabMax; omega) hB
    by_cases h1 : els.length = 1
    · match els, h1, hB, hl, hbr, hblk, ht with
      | [x], _, hB, hl, hbr, hblk, ht =>
        by_cases hx : x.k = 3
        · have hc : chained ([x].map TStmt.k) = true := by show decide (x.k = 3) = true; rw [decide_eq_true hx]
          rw [hc, if_pos rfl, wSs, wSs] at hB ⊢
          have hB : Bd (wS litP x (pgap [32] (ptok yElse (pgap [32] q)))) := hB
          obtain ⟨_, c1, c2, c3⟩ := hpre (hB.of (gw_s x _))
          obtain ⟨d1, d2, d3, d4⟩ := hq c1
          have hbx := hbr x (by simp) hx _ g3 (by rw [t3]; rw [szSs, szSs] at ht; unfold tabMax; omega) hB
          refine DoesQ.eq (DoesQ.of Tryz.func201 (by kernel_rfl) ?_)
          refine WP.use1 d1 ?_
          refine WP.use1 d2 ?_
          refine WP.use1 d3 ?_
          refine WP.use1 d4 ?_
          refine WP.iteF rfl ?_
          refine WP.use1 (gap_lit hP [32] q c2) ?_
          refine WP.use1 (tok_lit hP _ g1 yElse (by simp) c3) ?_
          refine WP.use1 (gap_lit hP [32] _ (hB.of (gw_s x _))) ?_
          refine WP.iteT (by show decide (((ssAll [x]).length : Int) = 1) = true; rw [ssAll1]; rfl) ?_
          refine WP.idx (sD x) (by decide) (by show (ssAll [x])[Int.toNat 0]? = some (sD x); rw [ssAll1]; rfl) ?_
          refine WP.iteT (decide_eq_true hx) ?_
          refine WP.idx (sD x) (by decide) (by show (ssAll [x])[Int.toNat 0]? = some (sD x); rw [ssAll1]; rfl) ?_
          refine WP.use1 hbx ?_
          exact WP.leaf rfl
        · have hc : chained ([x].map TStmt.k) = false := by show decide (x.k = 3) = false; rw [decide_eq_false hx]
          rw [hc, if_neg (by decide)] at hB ⊢
          obtain ⟨_, c1, c2, c3⟩ := hpre (hB.of (gw_b [x] _))
          obtain ⟨d1, d2, d3, d4⟩ := hq c1
          refine DoesQ.eq (DoesQ.of Tryz.func201 (by kernel_rfl) ?_)
          refine WP.use1 d1 ?_
          refine WP.use1 d2 ?_
          refine WP.use1 d3 ?_
          refine WP.use1 d4 ?_
          refine WP.iteF rfl ?_
          refine WP.use1 (gap_lit hP [32] q c2) ?_
          refine WP.use1 (tok_lit hP _ g1 yElse (by simp) c3) ?_
          refine WP.use1 (gap_lit hP [32] _ (hB.of (gw_b [x] _))) ?_
          refine WP.iteT (by show decide (((ssAll [x]).length : Int) = 1) = true; rw [ssAll1]; rfl) ?_
          refine WP.idx (sD x) (by decide) (by show (ssAll [x])[Int.toNat 0]? = some (sD x); rw [ssAll1]; rfl) ?_
          refine WP.iteF (decide_eq_false hx) ?_
          refine WP.use1 (hblk hc hB) ?_
          exact WP.leaf rfl
    · have hc : chained (els.map TStmt.k) = false := by
        match els, h1 with
        | [], _ => rfl
        | _ :: _ :: _, _ => rfl
      rw [hc, if_neg (by decide)] at hB ⊢
      obtain ⟨_, c1, c2, c3⟩ := hpre (hB.of (gw_b els _))
      obtain ⟨d1, d2, d3, d4⟩ := hq c1
      refine DoesQ.eq (DoesQ.of Tryz.func201 (by kernel_rfl) ?_)
      refine WP.use1 d1 ?_
      refine WP.use1 d2 ?_
      refine WP.use1 d3 ?_
      refine WP.use1 d4 ?_
      refine WP.iteF rfl ?_
      refine WP.use1 (gap_lit hP [32] q c2) ?_
      refine WP.use1 (tok_lit hP _ g1 yElse (by simp) c3) ?_
      refine WP.use1 (gap_lit hP [32] _ (hB.of (gw_b els _))) ?_
      refine WP.iteF (by show decide (((ssAll els).length : Int) = 1) = false; rw [ssAll_len]; exact decide_eq_false (by omega)) ?_
      try refine WP.iteF rfl ?_
      refine WP.use1 (hblk hc hB) ?_
      exact WP.leaf rfl
end
end Go.Proofs.YtaddhpeainliiaaGreatDoor.Id
/-! ## PrNc -/
namespace Go.Proofs.YtaddhpeainliiaaGreatDoor.Id
open Go
set_option linter.unusedVariables false
set_option linter.unusedSimpArgs false
set_option maxRecDepth 100000
section
variable {X : Given}
set_option maxHeartbeats 8000000 in
theorem stmt_w (hP : LibP X) : ∀ (n : Nat) (s : TStmt), SizeOf.sizeOf s < n → rightS s = true → smS s → rgS s → StmtOK X s ∧ (s.k = 3 → BranchOK X s)
  | 0, _, h, _, _, _ => absurd h (Nat.not_lt_zero _)
  | n + 1, .mk k a nm e body els he, hn, hr, hs, hv => by
    rw [rightS, Bool.and_eq_true, Bool.and_eq_true, Bool.and_eq_true] at hr
    obtain ⟨hb, hes, hel, hN⟩ := hr
    rw [smS] at hs
    rw [rgS] at hv
    obtain ⟨s1, s2, s3, s4, s5, s6⟩ := hs
    obtain ⟨v1, v2, v3⟩ := hv
    simp only [TStmt.mk.sizeOf_spec] at hn
    have hbody : ∀ x ∈ body, StmtOK X x ∧ (sc litP x).ok := fun x hx => ⟨(stmt_w hP n x (by have := List.sizeOf_lt_of_mem hx; omega) (rightSs_mem hb hx) (smSs_mem s5 hx) (rgSs_mem v2 hx)).1, sc_ok (rightSs_mem hb hx)⟩
    have hels : ∀ x ∈ els, StmtOK X x ∧ (sc litP x).ok := fun x hx => ⟨(stmt_w hP n x (by have := List.sizeOf_lt_of_mem hx; omega) (rightSs_mem hes hx) (smSs_mem s6 hx) (rgSs_mem v3 hx)).1, sc_ok (rightSs_mem hes hx)⟩
    have hbrs : ∀ x ∈ els, x.k = 3 → BranchOK X x := fun x hx => (stmt_w hP n x (by have := List.sizeOf_lt_of_mem hx; omega) (rightSs_mem hes hx) (smSs_mem s6 hx) (rgSs_mem v3 hx)).2
    have hE : rightE e = true → ExprOK X e := fun h => expr_w hP _ e (Nat.lt_succ_self _) h s2 v1
    have hbranch : k = 3 → BranchOK X (.mk k a nm e body els he) := fun h3 => by
      subst h3
      have hrE : rightE e = true := by
        unfold rightSN at hN
        rw [if_neg (by decide), if_pos rfl, Bool.and_eq_true] at hN
        exact hN.1
      exact branch_w hP a nm e body els he hrE (hE hrE) s3 s4 hbody hels hbrs
    refine ⟨fun p hg ht hB => ?_, hbranch⟩
    have hbr := hbranch
    unfold rightSN at hN
    by_cases k3 : k = 3
    · subst k3
      refine DoesQ.eq (DoesQ.of Tryz.func179 (by kernel_rfl) ?_)
      refine WP.iteF rfl ?_
      refine WP.iteF rfl ?_
      refine WP.iteT rfl ?_
      refine WP.use1 (hbr rfl p hg ht hB) ?_
      exact WP.leaf rfl
    rw [szS] at ht
    rw [wS] at hB ⊢
    unfold wSN at hB ⊢
    unfold tabMax at ht
    by_cases k1 : k = 1
    · subst k1
      rw [if_pos (.inl rfl)] at hN
      simp only [Bool.and_eq_true, Bool.not_eq_true', decide_eq_true_eq] at hN
      obtain ⟨h1, h2, rfl, h4⟩ := hN
      rw [if_pos rfl] at hB ⊢
      have b2 := hB.of (gw_tok [59] _)
      have b1 := (b2.of (gw_e e _)).of (gw_gap [32] _)
      obtain ⟨d1, g1⟩ := toks3 hP (mkB yVar) nm (mkB [61]) (tk_lit (by simp)) (tk_word h4) (tk_lit (by simp)) false p (Fr.no _) hg (by rw [L_mkB, L_mkB]; exact b1)
      rw [L_mkB, L_mkB] at d1 g1
      have d2 := after_does hP e (hE h1) _ g1 b2
      have d3 := tok_lit hP _ (e_keep h1 (g1.gap [32])).1 [59] (by simp) hB
      refine DoesQ.eq (DoesQ.of Tryz.func179 (by kernel_rfl) ?_)
      refine WP.iteT rfl ?_
      refine WP.use1 d1 ?_
      refine WP.use1 d2 ?_
      refine WP.use1 d3 ?_
      exact WP.leaf rfl
    by_cases k2 : k = 2
    · subst k2
      rw [if_pos (.inr rfl)] at hN
      simp only [Bool.and_eq_true, Bool.not_eq_true', decide_eq_true_eq] at hN
      obtain ⟨h1, h2, rfl, h4⟩ := hN
      rw [if_neg (by decide), if_pos rfl] at hB ⊢
      have b2 := hB.of (gw_tok [59] _)
      have b1 := (b2.of (gw_e e _)).of (gw_gap [32] _)
      obtain ⟨d1, g1⟩ := toks2 hP nm (mkB [61]) (tk_word h4) (tk_lit (by simp)) false p (Fr.no _) hg (by rw [L_mkB]; exact b1)
      rw [L_mkB] at d1 g1
      have d2 := after_does hP e (hE h1) _ g1 b2
      have d3 := tok_lit hP _ (e_keep h1 (g1.gap [32])).1 [59] (by simp) hB
      refine DoesQ.eq (DoesQ.of Tryz.func179 (by kernel_rfl) ?_)
      refine WP.iteF rfl ?_
      refine WP.iteT rfl ?_
      refine WP.use1 d1 ?_
      refine WP.use1 d2 ?_
      refine WP.use1 d3 ?_
      exact WP.leaf rfl
    rw [if_neg (by omega), if_neg k3] at hN
    rw [if_neg k1, if_neg k2, if_neg k3] at hB ⊢
    by_cases k4 : k = 4
    · subst k4
      rw [if_pos rfl] at hN hB ⊢
      simp only [Bool.and_eq_true, Bool.not_eq_true', decide_eq_true_eq] at hN
      obtain ⟨h1, h2, rfl⟩ := hN
      have b3 := hB.of (gw_b body _)
      have b2 := b3.of (gw_gap [32] _)
      have b1 := (b2.of (gw_e e _)).of (gw_gap [32] _)
      have g1 : Pg (ptok yWhile p) := hg.any (by simp) (by simp)
      have g2 := e_keep h1 (g1.gap [32])
      have d1 := tok_lit hP p hg yWhile (by simp) b1
      have d2 := after_does hP e (hE h1) _ g1 b2
      have d3 := gap_lit hP [32] _ b3
      have d4 := blk_w hP body s3 hbody _ (g2.1.gap [32]) (by rw [pgap_tabs, g2.2, pgap_tabs, ptok_tabs]; unfold tabMax; omega) hB
      refine DoesQ.eq (DoesQ.of Tryz.func179 (by kernel_rfl) ?_)
      refine WP.iteF rfl ?_
      refine WP.iteF rfl ?_
      refine WP.iteF rfl ?_
      refine WP.iteT rfl ?_
      refine WP.use1 d1 ?_
      refine WP.use1 d2 ?_
      refine WP.use1 d3 ?_
      refine WP.use1 d4 ?_
      exact WP.leaf rfl
    rw [if_neg k4] at hN hB ⊢
    by_cases k5 : k = 5
    · subst k5
      rw [if_pos rfl] at hN hB ⊢
      simp only [Bool.and_eq_true, Bool.or_eq_true, Bool.not_eq_true', decide_eq_true_eq] at hN
      obtain ⟨h1, h2, rfl, h4⟩ := hN
      have g1 : Pg (ptok yReturn p) := hg.any (by simp) (by simp)
      rcases h1 with h1 | h1
      · rw [decide_eq_false (rightE_k h1), if_neg (by decide)] at hB ⊢
        have b2 := hB.of (gw_tok [59] _)
        have b1 := (b2.of (gw_e e _)).of (gw_gap [32] _)
        have d1 := tok_lit hP p hg yReturn (by simp) b1
        have d2 := after_does hP e (hE h1) _ g1 b2
        have d3 := tok_lit hP _ (e_keep h1 (g1.gap [32])).1 [59] (by simp) hB
        have hk := rightE_k h1
        refine DoesQ.eq (DoesQ.of Tryz.func179 (by kernel_rfl) ?_)
        refine WP.iteF rfl ?_
        refine WP.iteF rfl ?_
        refine WP.iteF rfl ?_
        refine WP.iteF rfl ?_
        refine WP.iteT rfl ?_
        refine WP.use1 d1 ?_
        refine WP.iteT (by simp; exact hk) ?_
        refine WP.use1 d2 ?_
        refine WP.use1 d3 ?_
        exact WP.leaf rfl
      · rw [decide_eq_true (noneE_k h1), if_pos rfl] at hB ⊢
        have b1 := hB.of (gw_tok [59] _)
        have d1 := tok_lit hP p hg yReturn (by simp) b1
        have d3 := tok_lit hP _ g1 [59] (by simp) hB
        have hk := noneE_k h1
        refine DoesQ.eq (DoesQ.of Tryz.func179 (by kernel_rfl) ?_)
        refine WP.iteF rfl ?_
        refine WP.iteF rfl ?_
        refine WP.iteF rfl ?_
        refine WP.iteF rfl ?_
        refine WP.iteT rfl ?_
        refine WP.use1 d1 ?_
        refine WP.iteF (by simp; exact hk) ?_
        refine WP.use1 d3 ?_
        exact WP.leaf rfl
    rw [if_neg k5] at hN hB ⊢
    by_cases k6 : k = 6
    · subst k6
      rw [if_pos rfl] at hN hB ⊢
      simp only [Bool.and_eq_true, Bool.not_eq_true', decide_eq_true_eq] at hN
      obtain ⟨h1, h2, rfl, h4⟩ := hN
      have b2 := hB.of (gw_tok [59] _)
      have b1 := (b2.of (gw_e e _)).of (gw_gap [32] _)
      have g1 : Pg (ptok yPrint p) := hg.any (by simp) (by simp)
      have d1 := tok_lit hP p hg yPrint (by simp) b1
      have d2 := after_does hP e (hE h1) _ g1 b2
      have d3 := tok_lit hP _ (e_keep h1 (g1.gap [32])).1 [59] (by simp) hB
      refine DoesQ.eq (DoesQ.of Tryz.func179 (by kernel_rfl) ?_)
      refine WP.iteF rfl ?_
      refine WP.iteF rfl ?_
      refine WP.iteF rfl ?_
      refine WP.iteF rfl ?_
      refine WP.iteF rfl ?_
      refine WP.iteT rfl ?_
      refine WP.use1 d1 ?_
      refine WP.use1 d2 ?_
      refine WP.use1 d3 ?_
      exact WP.leaf rfl
    rw [if_neg k6] at hN hB ⊢
    by_cases k7 : k = 7
    · subst k7
      rw [if_pos rfl] at hN hB ⊢
      simp only [Bool.and_eq_true, Bool.not_eq_true', decide_eq_true_eq] at hN
      obtain ⟨h1, h2, rfl, h4⟩ := hN
      have b2 := hB.of (gw_tok [59] _)
      have d2 := hE h1 false p (Fr.no _) hg b2
      have d3 := tok_lit hP _ (e_keep h1 hg).1 [59] (by simp) hB
      refine DoesQ.eq (DoesQ.of Tryz.func179 (by kernel_rfl) ?_)
      refine WP.iteF rfl ?_
      refine WP.iteF rfl ?_
      refine WP.iteF rfl ?_
      refine WP.iteF rfl ?_
      refine WP.iteF rfl ?_
      refine WP.iteF rfl ?_
      refine WP.iteT rfl ?_
      refine WP.use1 d2 ?_
      refine WP.use1 d3 ?_
      exact WP.leaf rfl
    rw [if_neg k7] at hN
    cases hN
theorem stmt_ok (hP : LibP X) {s : TStmt} (hr : rightS s = true) (hs : smS s) (hv : rgS s) : StmtOK X s ∧ (sc litP s).ok := ⟨(stmt_w hP _ s (Nat.lt_succ_self _) hr hs hv).1, sc_ok hr⟩
end
end Go.Proofs.YtaddhpeainliiaaGreatDoor.Id
/-! ## PrO -/
namespace Go.Proofs.YtaddhpeainliiaaGreatDoor.Id
open Go
set_option linter.unusedVariables false
set_option linter.unusedSimpArgs false
set_option maxRecDepth 100000
section
variable {X : Given}
theorem gw_par (x : TParam) : Gw (wPar x) := fun p => by
  unfold wPar
  exact (((gw_tok _ p).to (gw_tok _)).to (gw_gap _)).to (gw_tok _)
theorem gw_res (r : Int) : Gw (wRes r) := fun p => by
  unfold wRes
  split
  · exact Le.rfl
  · exact ((gw_tok _ p).to (gw_gap _)).to (gw_tok _)
abbrev fnV (f : TFunc) : List V := [vS f.nm, vB f.ex, vI f.a, .d (.sl 2 (psD f.ps)), vI f.res, .d (.sl 16 (ssAll f.body))]
theorem yTyp_ne (t : Int) : L (mkB (yTyp t)) ≠ [] := by rw [L_mkB]; exact (yTyp_w t).ne
set_option maxHeartbeats 4000000 in
theorem pars_w (hP : LibP X) (f : TFunc) (hk : f.ps.length ≤ 1000000000) (hr : ∀ x ∈ f.ps, rightP x = true) (p9 : PSt) (hB9 : Bd p9) (K : Ex → St → Id.T Out) (Q : Out → Prop)
    (hK : Pg p9 → WP X (K (.exit 0) ⟨[(0, .box base 0), (3, .box 3 0)], [(3, fnV f), (base, pW p9)]⟩) Q) :
    ∀ (r p : List TParam) (q : PSt), f.ps = p ++ r → wSeq (r.map wPar) (decide (p.length = 0)) q = p9 → Pg q → ∀ σ : St, getT σ.t 0 = .box base 0 → getT σ.t 3 = .box 3 0 → getT σ.t 20 = .d (.sl 2 (psD f.ps)) → getT σ.t 21 = vI (psD f.ps).length → getT σ.t 22 = vI p.length → getB σ.b 3 = some (fnV f) → getB σ.b base = some (pW q) → WP X (.loop (lp Tryz.f108 0) σ K) Q
  | r, p, q, h, hq, hg, σ, g0, g3, g20, g21, g22, gb3, gb => by
    refine WP.round ⟨[(0, .box base 0), (3, .box 3 0), (20, .d (.sl 2 (psD f.ps))), (21, vI (psD f.ps).length), (22, vI p.length)], [(3, fnV f), (base, pW q)]⟩ ⟨⟨.inl g0.symm, .inl g3.symm, .inl g20.symm, .inl g21.symm, .inl g22.symm, trivial⟩, ⟨WkB.box gb3, WkB.box gb, trivial⟩⟩ ?_
    have hlen : f.ps.length = p.length + r.length := by rw [h]; simp
    have hsl : (psD f.ps).length = f.ps.length := by simp
    cases r with
    | nil =>
      refine WP.iteF (by rw [hsl]; simp at hlen; simp; omega) ?_
      rw [List.map_nil, wSeq] at hq
      subst hq
      exact WP.leaf ⟨⟨[(0, .box base 0), (3, .box 3 0)], [(3, fnV f), (base, pW q)]⟩, ⟨⟨.inl rfl, .inl rfl, trivial⟩, ⟨WkB.box rfl, WkB.box rfl, trivial⟩⟩, hK hg⟩
    | cons y r =>
      simp only [List.length_cons] at hlen
      have hy := hr y (by rw [h]; simp)
      have hyw : isWord y.nm = true := by unfold rightP at hy; rw [Bool.and_eq_true] at hy; exact hy.1
      rw [List.map_cons, wSeq] at hq
      have hgw : ∀ b z, Le z (wSeq (r.map wPar) b z) := fun b z => gw_seq _ (fun f hf => by
        obtain ⟨x, _, rfl⟩ := List.mem_map.1 hf
        exact gw_par x) b z
      have facts : ∀ q1 : PSt, Pg q1 → Bd (wPar y q1) → Does X 71 [.box base 0, vS y.nm] [pW q1] (.ret (.tuple []) [pW (ptok (L y.nm) q1)]) ∧ Does X 71 [.box base 0, vS (mkB [58])] [pW (ptok (L y.nm) q1)] (.ret (.tuple []) [pW (ptok [58] (ptok (L y.nm) q1))]) ∧ Does X 73 [.box base 0, vS (mkB [32])] [pW (ptok [58] (ptok (L y.nm) q1))] (.ret (.tuple []) [pW (pgap [32] (ptok [58] (ptok (L y.nm) q1)))]) ∧ Does X 71 [.box base 0, vS (mkB (yTyp y.t))] [pW (pgap [32] (ptok [58] (ptok (L y.nm) q1)))] (.ret (.tuple []) [pW (wPar y q1)]) := fun q1 hg1 b4 => by
        have b3 := b4.of (gw_tok (yTyp y.t) _)
        have b2 := b3.of (gw_gap [32] _)
        have b1 := b2.of (gw_tok [58] _)
        have g1 := hg1.word hyw
        have g2 : Pg (ptok [58] (ptok (L y.nm) q1)) := g1.any (by simp) (by simp)
        have d4 := tok_does hP _ (g2.gap [32]) (mkB (yTyp y.t)) (yTyp_ne _) (by rw [L_mkB]; exact b4)
        rw [L_mkB] at d4
        exact ⟨tok_does hP q1 hg1 y.nm (isWord_ne hyw) b1, tok_lit hP _ g1 [58] (by simp) b2, gap_lit hP [32] _ b3, d4⟩
      have hnext : ∀ (q1 : PSt) (σ : St), Pg q1 → wSeq (r.map wPar) false (wPar y q1) = p9 → getT σ.t 0 = .box base 0 → getT σ.t 3 = .box 3 0 → getT σ.t 20 = .d (.sl 2 (psD f.ps)) → getT σ.t 21 = vI (psD f.ps).length → getT σ.t 22 = vI (IntKind.i64.wrap ((p.length : Int) + 1)) → getB σ.b 3 = some (fnV f) → getB σ.b base = some (pW (wPar y q1)) → WP X (.loop (lp Tryz.f108 0) σ K) Q := fun q1 σ hg1 hq1 g0 g3 g20 g21 g22 gb3 gb => by
        refine pars_w hP f hk hr p9 hB9 K Q hK r (p ++ [y]) _ (by rw [h]; simp) ?_ (hg1.is (par_is hy)) σ g0 g3 g20 g21 ?_ gb3 gb
        · rw [decide_eq_false (by simp)]; exact hq1
        · rw [g22, wrapI (by omega) (by omega)]; simp
      refine WP.iteT (by rw [hsl]; simp; omega) ?_
      refine WP.idx _ (by omega) (map_get _ h) ?_
      by_cases hp : p.length = 0
      · rw [decide_eq_true hp, if_pos rfl] at hq
        obtain ⟨d1, d2, d3, d4⟩ := facts q hg ((hq ▸ hB9 : Bd _).of (hgw _ _))
        refine WP.iteF (decide_eq_false (by omega)) ?_
        refine WP.use1 d1 ?_
        refine WP.use1 d2 ?_
        refine WP.use1 d3 ?_
        refine WP.use1 (typ_does y.t) ?_
        refine WP.use1 d4 ?_
        exact WP.leaf (hnext q _ hg hq rfl rfl rfl rfl rfl rfl rfl)
      · rw [decide_eq_false hp, if_neg (by simp)] at hq
        have b3 : Bd (wPar y (pgap [32] (ptok [44] q))) := (hq ▸ hB9 : Bd _).of (hgw _ _)
        have b2 := b3.of (gw_par y _)
        have b1 := b2.of (gw_gap [32] _)
        obtain ⟨d1, d2, d3, d4⟩ := facts _ hg.gapC b3
        refine WP.iteT (decide_eq_true (by omega)) ?_
        refine WP.use1 (tok_lit hP q hg [44] (by simp) b1) ?_
        refine WP.use1 (gap_lit hP [32] _ b2) ?_
        refine WP.use1 d1 ?_
        refine WP.use1 d2 ?_
        refine WP.use1 d3 ?_
        refine WP.use1 (typ_does y.t) ?_
        refine WP.use1 d4 ?_
        exact WP.leaf (hnext _ _ hg.gapC hq rfl rfl rfl rfl rfl rfl rfl)
end
end Go.Proofs.YtaddhpeainliiaaGreatDoor.Id
/-! ## PrOb -/
namespace Go.Proofs.YtaddhpeainliiaaGreatDoor.Id
open Go
set_option linter.unusedVariables false
set_option linter.unusedSimpArgs false
set_option maxRecDepth 100000
section
variable {X : Given}
def wFR (f : TFunc) (q : PSt) : PSt := pgap [10] (wBlk (wSs litP f.body) (pgap [32] (wRes f.res (wHead f q))))
theorem wF_eq (f : TFunc) (p : PSt) : wF litP f p = wExp f.ex (wFR f) p := rfl
theorem gw_head (f : TFunc) : Gw (wHead f) := fun p => by
  unfold wHead
  refine Le.to (gw_tok _) (Le.to (gw_seq _ (fun g hg => ?_) true) ?_)
  · obtain ⟨x, _, rfl⟩ := List.mem_map.1 hg
    exact gw_par x
  · exact (((gw_tok _ p).to (gw_gap _)).to (gw_tok _)).to (gw_tok _)
theorem gw_fr (f : TFunc) : Gw (wFR f) := fun p => by
  unfold wFR
  exact ((((gw_head f p).to (gw_res _)).to (gw_gap _)).to (gw_b _)).to (gw_gap _)
theorem gw_f (f : TFunc) : Gw (wF litP f) := fun p => by
  rw [wF_eq]
  unfold wExp
  refine Le.to (gw_fr f) ?_
  split
  · exact (gw_tok _ p).to (gw_gap _)
  · exact Le.rfl
theorem res_pg {r : Int} {p : PSt} (h : Pg p) : Pg (wRes r p) := by
  unfold wRes
  split
  · exact h
  · have h1 : Pg (ptok [58] p) := h.any (by simp) (by simp)
    have := (yTyp_w r).br
    exact (h1.gap [32]).any this.2.2.1 this.2.2.2
theorem res_tabs (r : Int) (p : PSt) : (wRes r p).tabs = p.tabs := by
  unfold wRes
  split
  · rfl
  · rw [ptok_tabs, pgap_tabs, ptok_tabs]
set_option maxHeartbeats 8000000 in
theorem func_w (hP : LibP X) (f : TFunc) (hr : rightF f = true) (hs : SmF f) (hv : rgSs f.body) (b : Bool) (p : PSt) (h0 : Fr b p) (hg : Pg p) (ht : p.tabs + szSs f.body + 1 ≤ tabMax) (hB : Bd (wF litP f p)) : Does X 108 [.box base 0, .agg (fD f)] [pV b p] (.ret (.tuple []) [pW (wF litP f p)]) := by
  obtain ⟨nm, ex, a, ps, res, body⟩ := f
  have hr0 := hr
  unfold rightF at hr
  simp only [Bool.and_eq_true] at hr
  obtain ⟨h1, _, _, h4, h5⟩ := hr
  have hbody : ∀ x ∈ body, StmtOK X x ∧ (sc litP x).ok := fun x hx => stmt_ok hP (rightSs_mem h4 hx) (smSs_mem hs.body hx) (rgSs_mem hv hx)
  rw [wF_eq] at hB ⊢
  have facts : ∀ (z : Bool) (q : PSt), Fr z q → Pg q → q.tabs = p.tabs → Bd (wFR ⟨nm, ex, a, ps, res, body⟩ q) →
      (Does X 106 [.box base 0, .d (.sl 1 [[.str (mkB yFunc)], [.str nm]])] [pV z q] (.ret (.tuple []) [pW (ptok (L nm) (pgap [32] (ptok yFunc q)))])) ∧
      (Does X 71 [.box base 0, vS (mkB [40])] [pW (ptok (L nm) (pgap [32] (ptok yFunc q)))] (.ret (.tuple []) [pW (ptok [40] (ptok (L nm) (pgap [32] (ptok yFunc q))))])) ∧
      (Pg (ptok [40] (ptok (L nm) (pgap [32] (ptok yFunc q)))) ∧ Bd (wSeq (ps.map wPar) true (ptok [40] (ptok (L nm) (pgap [32] (ptok yFunc q)))))) ∧
      (Pg (wSeq (ps.map wPar) true (ptok [40] (ptok (L nm) (pgap [32] (ptok yFunc q))))) → Does X 71 [.box base 0, vS (mkB [41])] [pW (wSeq (ps.map wPar) true (ptok [40] (ptok (L nm) (pgap [32] (ptok yFunc q)))))] (.ret (.tuple []) [pW (wHead ⟨nm, ex, a, ps, res, body⟩ q)])) ∧
      (res ≠ 0 → Does X 71 [.box base 0, vS (mkB [58])] [pW (wHead ⟨nm, ex, a, ps, res, body⟩ q)] (.ret (.tuple []) [pW (ptok [58] (wHead ⟨nm, ex, a, ps, res, body⟩ q))]) ∧ Does X 73 [.box base 0, vS (mkB [32])] [pW (ptok [58] (wHead ⟨nm, ex, a, ps, res, body⟩ q))] (.ret (.tuple []) [pW (pgap [32] (ptok [58] (wHead ⟨nm, ex, a, ps, res, body⟩ q)))]) ∧ Does X 71 [.box base 0, vS (mkB (yTyp res))] [pW (pgap [32] (ptok [58] (wHead ⟨nm, ex, a, ps, res, body⟩ q)))] (.ret (.tuple []) [pW (wRes res (wHead ⟨nm, ex, a, ps, res, body⟩ q))])) ∧
      (Does X 73 [.box base 0, vS (mkB [32])] [pW (wRes res (wHead ⟨nm, ex, a, ps, res, body⟩ q))] (.ret (.tuple []) [pW (pgap [32] (wRes res (wHead ⟨nm, ex, a, ps, res, body⟩ q)))])) ∧
      (Does X 147 [.box base 0, .d (.sl 16 (ssAll body))] [pW (pgap [32] (wRes res (wHead ⟨nm, ex, a, ps, res, body⟩ q)))] (.ret (.tuple []) [pW (wBlk (wSs litP body) (pgap [32] (wRes res (wHead ⟨nm, ex, a, ps, res, body⟩ q))))])) ∧
      (Does X 73 [.box base 0, vS (mkB [10])] [pW (wBlk (wSs litP body) (pgap [32] (wRes res (wHead ⟨nm, ex, a, ps, res, body⟩ q))))] (.ret (.tuple []) [pW (wFR ⟨nm, ex, a, ps, res, body⟩ q)])) := by
    intro z q hz hgq hqt b8
    have b8' : Bd (pgap [10] (wBlk (wSs litP body) (pgap [32] (wRes res (wHead ⟨nm, ex, a, ps, res, body⟩ q))))) := b8
    have b7 := b8'.of (gw_gap [10] _)
    have b6 := b7.of (gw_b body _)
    have b5 := b6.of (gw_gap [32] _)
    have b4 := b5.of (gw_res res _)
    have b4' : Bd (ptok [41] (wSeq (ps.map wPar) true (ptok [40] (ptok (L nm) (pgap [32] (ptok yFunc q)))))) := b4
    have b3 := b4'.of (gw_tok [41] _)
    have b2 := b3.of (gw_seq _ (fun g hg => by
      obtain ⟨x, _, rfl⟩ := List.mem_map.1 hg
      exact gw_par x) true _)
    have b1 := b2.of (gw_tok [40] _)
    have hh : Is (wHead ⟨nm, ex, a, ps, res, body⟩) (rHead ⟨nm, ex, a, ps, res, body⟩) 0 1 := head_is h1 h5
    have hpg4 := hgq.is hh
    have ht4 : (wHead ⟨nm, ex, a, ps, res, body⟩ q).tabs = q.tabs := by rw [hh.2.2 q hgq.most]; rfl
    obtain ⟨d1, g1⟩ := toks2 hP (mkB yFunc) nm (tk_lit (by simp)) (tk_word h1) z q hz hgq (by rw [L_mkB]; exact b1)
    rw [L_mkB] at d1 g1
    refine ⟨d1, tok_lit hP _ g1 [40] (by simp) b2, ⟨g1.open (.inr rfl), b3⟩, fun hg3 => tok_lit hP _ hg3 [41] (by simp) b4', fun hres => ?_, gap_lit hP [32] _ b6, ?_, gap_lit hP [10] _ b8'⟩
    · have e5 : wRes res (wHead ⟨nm, ex, a, ps, res, body⟩ q) = ptok (yTyp res) (pgap [32] (ptok [58] (wHead ⟨nm, ex, a, ps, res, body⟩ q))) := by unfold wRes; rw [if_neg hres]
      have c3 := b5
      rw [e5] at c3
      have c2 := c3.of (gw_tok (yTyp res) _)
      have c1 := c2.of (gw_gap [32] _)
      have k1 : Pg (ptok [58] (wHead ⟨nm, ex, a, ps, res, body⟩ q)) := hpg4.any (by simp) (by simp)
      have d := tok_does hP _ (k1.gap [32]) (mkB (yTyp res)) (yTyp_ne _) (by rw [L_mkB]; exact c3)
      rw [L_mkB, ← e5] at d
      exact ⟨tok_lit hP _ hpg4 [58] (by simp) c1, gap_lit hP [32] _ c2, d⟩
    · exact blk_w hP body hs.nb hbody _ ((res_pg hpg4).gap [32]) (by rw [pgap_tabs, res_tabs, ht4, hqt]; exact ht) b7
  cases ex with
  | false =>
    obtain ⟨f1, f2, f3, f4, f5, f6, f7, f8⟩ := facts b p h0 hg rfl hB
    show Does X _ _ _ (.ret (.tuple []) [pW (wFR ⟨nm, false, a, ps, res, body⟩ p)])
    cases b
    all_goals
      refine DoesQ.eq (DoesQ.of Tryz.func108 (by kernel_rfl) ?_)
      refine WP.iteF rfl ?_
      refine WP.use1 f1 ?_
      refine WP.use1 f2 ?_
      refine pars_w hP ⟨nm, false, a, ps, res, body⟩ hs.np (List.all_eq_true.1 h5) _ f3.2 _ _ (fun hg3 => ?_) ps [] _ rfl rfl f3.1 _ rfl rfl rfl rfl rfl rfl rfl
      refine WP.use1 (f4 hg3) ?_
      by_cases hres : res = 0
      · have e5 : wRes res (wHead ⟨nm, false, a, ps, res, body⟩ (p)) = wHead ⟨nm, false, a, ps, res, body⟩ (p) := by unfold wRes; rw [if_pos hres]
        rw [e5] at f6 f7 f8
        refine WP.iteF (by simp; exact hres) ?_
        refine WP.use1 f6 ?_
        refine WP.use1 f7 ?_
        refine WP.use1 f8 ?_
        exact WP.leaf rfl
      · obtain ⟨c1, c2, c3⟩ := f5 hres
        refine WP.iteT (by simp; exact hres) ?_
        refine WP.use1 c1 ?_
        refine WP.use1 c2 ?_
        refine WP.use1 (typ_does res) ?_
        refine WP.use1 c3 ?_
        refine WP.use1 f6 ?_
        refine WP.use1 f7 ?_
        refine WP.use1 f8 ?_
        exact WP.leaf rfl
  | true =>
    have hB : Bd (wFR ⟨nm, true, a, ps, res, body⟩ (pgap [32] (ptok yExport p))) := hB
    have c2 := hB.of (gw_fr _ _)
    have c1 := c2.of (gw_gap [32] _)
    have e1 := tok_any hP b p h0 hg (mkB yExport) (by rw [L_mkB]; simp) (fun _ => by rw [L_mkB]; simp) (by rw [L_mkB]; exact c1)
    rw [L_mkB] at e1
    have k1 : Pg (ptok yExport p) := hg.any (by simp) (by simp)
    have e2 := gap_lit hP [32] _ c2
    obtain ⟨f1, f2, f3, f4, f5, f6, f7, f8⟩ := facts false (pgap [32] (ptok yExport p)) (Fr.no _) (k1.gap [32]) (by rw [pgap_tabs, ptok_tabs]) hB
    show Does X _ _ _ (.ret (.tuple []) [pW (wFR ⟨nm, true, a, ps, res, body⟩ (pgap [32] (ptok yExport p)))])
    cases b
    all_goals
      refine DoesQ.eq (DoesQ.of Tryz.func108 (by kernel_rfl) ?_)
      refine WP.iteT rfl ?_
      refine WP.use1 e1 ?_
      refine WP.use1 e2 ?_
      refine WP.use1 f1 ?_
      refine WP.use1 f2 ?_
      refine pars_w hP ⟨nm, true, a, ps, res, body⟩ hs.np (List.all_eq_true.1 h5) _ f3.2 _ _ (fun hg3 => ?_) ps [] _ rfl rfl f3.1 _ rfl rfl rfl rfl rfl rfl rfl
      refine WP.use1 (f4 hg3) ?_
      by_cases hres : res = 0
      · have e5 : wRes res (wHead ⟨nm, true, a, ps, res, body⟩ (pgap [32] (ptok yExport p))) = wHead ⟨nm, true, a, ps, res, body⟩ (pgap [32] (ptok yExport p)) := by unfold wRes; rw [if_pos hres]
        rw [e5] at f6 f7 f8
        refine WP.iteF (by simp; exact hres) ?_
        refine WP.use1 f6 ?_
        refine WP.use1 f7 ?_
        refine WP.use1 f8 ?_
        exact WP.leaf rfl
      · obtain ⟨c1, c2, c3⟩ := f5 hres
        refine WP.iteT (by simp; exact hres) ?_
        refine WP.use1 c1 ?_
        refine WP.use1 c2 ?_
        refine WP.use1 (typ_does res) ?_
        refine WP.use1 c3 ?_
        refine WP.use1 f6 ?_
        refine WP.use1 f7 ?_
        refine WP.use1 f8 ?_
        exact WP.leaf rfl
end
end Go.Proofs.YtaddhpeainliiaaGreatDoor.Id
/-! ## PrP -/
namespace Go.Proofs.YtaddhpeainliiaaGreatDoor.Id
open Go
set_option linter.unusedVariables false
set_option linter.unusedSimpArgs false
set_option maxRecDepth 100000
section
variable {X : Given}
theorem gw_i (x : TIncl) : Gw (wI qtP x) := fun p => by
  unfold wI
  exact (((((((((gw_tok _ p).to (gw_gap _)).to (gw_tok _)).to (gw_gap _)).to (gw_tok _)).to (gw_gap _)).to (gw_tok _)).to (gw_tok _)).to (gw_gap _))
def wCR (x : TCons) (p : PSt) : PSt := pgap [10] (ptok [59] (wE litP x.e (pgap [32] (ptok [61] (pgap [32] (ptok (L x.nm) (pgap [32] (ptok yConst p))))))))
theorem wC_eq (x : TCons) (p : PSt) : wC litP x p = wExp x.ex (wCR x) p := rfl
theorem gw_cr (x : TCons) : Gw (wCR x) := fun p => by
  unfold wCR
  exact ((((((((gw_tok _ p).to (gw_gap _)).to (gw_tok _)).to (gw_gap _)).to (gw_tok _)).to (gw_gap _)).to (gw_e _)).to (gw_tok _)).to (gw_gap _)
theorem gw_c (x : TCons) : Gw (wC litP x) := fun p => by
  rw [wC_eq]
  unfold wExp
  refine Le.to (gw_cr x) ?_
  split
  · exact (gw_tok _ p).to (gw_gap _)
  · exact Le.rfl
theorem gw_it {α : Type} (f : α → PSt → PSt) (h : ∀ x, Gw (f x)) : ∀ l : List α, Gw (wIt (l.map f))
  | [] => fun p => Le.rfl
  | x :: r => fun p => by
    rw [List.map_cons, wIt]
    exact (h x p).to (gw_it f h r)
theorem it_keep {f : PSt → PSt} {s : Bool → List UInt8} {l : UInt8} {n : Int} (h : IsT 0 f s l n) {p : PSt} (hg : Pg p) (ht : p.tabs = 0) : Pg (f p) ∧ (f p).tabs = 0 := ⟨hg.isT h ht, by rw [h.2.2 p ht hg.most]; exact ht⟩
theorem toks4 (hP : LibP X) (a b c d : ByteArray) (ha : TkOK a) (hb : TkOK b) (hc : TkOK c) (hd : TkOK d) (z : Bool) (p : PSt) (h0 : Fr z p) (hg : Pg p) (hB : Bd (ptok (L d) (pgap [32] (ptok (L c) (pgap [32] (ptok (L b) (pgap [32] (ptok (L a) p)))))))) : Does X 106 [.box base 0, .d (.sl 1 [[.str a], [.str b], [.str c], [.str d]])] [pV z p] (.ret (.tuple []) [pW (ptok (L d) (pgap [32] (ptok (L c) (pgap [32] (ptok (L b) (pgap [32] (ptok (L a) p)))))))]) ∧ Pg (ptok (L d) (pgap [32] (ptok (L c) (pgap [32] (ptok (L b) (pgap [32] (ptok (L a) p))))))) := by
  have e1 : wToks [a, b, c, d] true p = ptok (L d) (pgap [32] (ptok (L c) (pgap [32] (ptok (L b) (pgap [32] (ptok (L a) p)))))) := by simp [wToks]
  have hall : ∀ s ∈ [a, b, c, d], TkOK s := fun s hs => by
    simp only [List.mem_cons, List.not_mem_nil, or_false] at hs
    rcases hs with rfl | rfl | rfl | rfl
    · exact ha
    · exact hb
    · exact hc
    · exact hd
  have h := toks_does hP [a, b, c, d] (by simp) (by simp) hall z p h0 hg (by rw [e1]; exact hB)
  have h2 := Pg.toks hg [a, b, c, d] hall true p hg
  rw [e1] at h h2
  exact ⟨h, h2⟩
set_option maxHeartbeats 4000000 in
theorem incs_w (hP : LibP X) (m : TMod) (b : Bool) (hk : m.is.length ≤ 1000000000) (hr : ∀ x ∈ m.is, rightI x = true) (p9 : PSt) (hB9 : Bd p9) (K : Ex → St → Id.T Out) (Q : Out → Prop)
    (hK : Pg p9 → p9.tabs = 0 → Fr (b && decide (m.is.length = 0)) p9 → WP X (K (.exit 0) ⟨[(0, .box base 0), (3, .box 3 0)], [(3, mV m), (base, pV (b && decide (m.is.length = 0)) p9)]⟩) Q) :
    ∀ (r p : List TIncl) (q : PSt), m.is = p ++ r → wIt (r.map (wI qtP)) q = p9 → Pg q → q.tabs = 0 → Fr (b && decide (p.length = 0)) q → ∀ σ : St, getT σ.t 0 = .box base 0 → getT σ.t 3 = .box 3 0 → getT σ.t 13 = .d (.sl 3 (isD' m.is)) → getT σ.t 14 = vI (isD' m.is).length → getT σ.t 15 = vI p.length → getB σ.b 3 = some (mV m) → getB σ.b base = some (pV (b && decide (p.length = 0)) q) → WP X (.loop (lp Tryz.f65 0) σ K) Q
  | r, p, q, h, hq, hg, ht, h0, σ, g0, g3, g13, g14, g15, gb3, gb => by
    have hlen : m.is.length = p.length + r.length := by rw [h]; simp
    have hsl : (isD' m.is).length = m.is.length := by simp
    have hpl : r = [] → p.length = m.is.length := fun e => by rw [hlen, e]; simp
    generalize hc : (b && decide (p.length = 0)) = c at h0 gb
    refine WP.round ⟨[(0, .box base 0), (3, .box 3 0), (13, .d (.sl 3 (isD' m.is))), (14, vI (isD' m.is).length), (15, vI p.length)], [(3, mV m), (base, pV c q)]⟩ ⟨⟨.inl g0.symm, .inl g3.symm, .inl g13.symm, .inl g14.symm, .inl g15.symm, trivial⟩, ⟨WkB.box gb3, WkB.box gb, trivial⟩⟩ ?_
    cases r with
    | nil =>
      rw [List.map_nil, wIt] at hq
      subst hq
      have hc' : (b && decide (m.is.length = 0)) = c := by rw [← hc, hpl rfl]
      rw [hc'] at hK
      cases c
      all_goals
        refine WP.iteF (by rw [hsl]; simp at hlen; simp; omega) ?_
        exact WP.leaf ⟨⟨[(0, .box base 0), (3, .box 3 0)], [(3, mV m), (base, pV _ q)]⟩, ⟨⟨.inl rfl, .inl rfl, trivial⟩, ⟨WkB.box rfl, WkB.box rfl, trivial⟩⟩, hK hg ht h0⟩
    | cons y r =>
      simp only [List.length_cons] at hlen
      have hy := hr y (by rw [h]; simp)
      have hy' := hy
      unfold rightI at hy'
      rw [Bool.and_eq_true, decide_eq_true_eq] at hy'
      rw [List.map_cons, wIt] at hq
      have hB : Bd (wI qtP y q) := (hq ▸ hB9 : Bd _).of (gw_it _ gw_i _ _)
      have b3 : Bd (ptok [59] (ptok (L y.nm) (pgap [32] (ptok yAs (pgap [32] (ptok (qtP y.p) (pgap [32] (ptok yInclude q)))))))) := Bd.of hB (gw_gap [10] _)
      have b2 := b3.of (gw_tok [59] _)
      obtain ⟨d1, g1⟩ := toks4 hP (mkB yInclude) (mkB (qtP y.p)) (mkB yAs) y.nm (tk_lit (by simp)) (tk_lit (by unfold qtP; simp)) (tk_lit (by simp)) (tk_word hy'.2) c q h0 hg (by rw [L_mkB, L_mkB, L_mkB]; exact b2)
      rw [L_mkB, L_mkB, L_mkB] at d1 g1
      have d2 := tok_lit hP _ g1 [59] (by simp) b3
      have d3 : Does X 73 [.box base 0, vS (mkB [10])] _ (.ret (.tuple []) [pW (wI qtP y q)]) := gap_lit hP [10] _ hB
      have hkeep := it_keep (incl_is qt_facts hy) hg ht
      have hnext : ∀ (σ : St), getT σ.t 0 = .box base 0 → getT σ.t 3 = .box 3 0 → getT σ.t 13 = .d (.sl 3 (isD' m.is)) → getT σ.t 14 = vI (isD' m.is).length → getT σ.t 15 = vI (IntKind.i64.wrap ((p.length : Int) + 1)) → getB σ.b 3 = some (mV m) → getB σ.b base = some (pW (wI qtP y q)) → WP X (.loop (lp Tryz.f65 0) σ K) Q := fun σ g0 g3 g13 g14 g15 gb3 gb => by
        have hf : (b && decide ((p ++ [y]).length = 0)) = false := by rw [decide_eq_false (by simp), Bool.and_false]
        refine incs_w hP m b hk hr p9 hB9 K Q hK r (p ++ [y]) _ (by rw [h]; simp) hq hkeep.1 hkeep.2 (by rw [hf]; exact Fr.no _) σ g0 g3 g13 g14 ?_ gb3 (by rw [hf]; exact gb)
        rw [g15, wrapI (by omega) (by omega)]; simp
      cases c
      all_goals
        refine WP.iteT (by rw [hsl]; simp; omega) ?_
        refine WP.idx _ (by omega) (map_get _ h) ?_
        refine WP.use1 (lquote y.p hy'.1) ?_
        refine WP.use1 d1 ?_
        refine WP.use1 d2 ?_
        refine WP.use1 d3 ?_
        exact WP.leaf (hnext _ rfl rfl rfl rfl rfl rfl rfl)
set_option maxHeartbeats 4000000 in
theorem cons_w (hP : LibP X) (m : TMod) (b : Bool) (hk : m.cs.length ≤ 1000000000) (hr : ∀ x ∈ m.cs, rightC x = true ∧ ExprOK X x.e) (p9 : PSt) (hB9 : Bd p9) (K : Ex → St → Id.T Out) (Q : Out → Prop)
    (hK : Pg p9 → p9.tabs = 0 → Fr (b && decide (m.cs.length = 0)) p9 → WP X (K (.exit 2) ⟨[(0, .box base 0), (3, .box 3 0)], [(3, mV m), (base, pV (b && decide (m.cs.length = 0)) p9)]⟩) Q) :
    ∀ (r p : List TCons) (q : PSt), m.cs = p ++ r → wIt (r.map (wC litP)) q = p9 → Pg q → q.tabs = 0 → Fr (b && decide (p.length = 0)) q → ∀ σ : St, getT σ.t 0 = .box base 0 → getT σ.t 3 = .box 3 0 → getT σ.t 49 = .d (.sl 13 (csD m.cs)) → getT σ.t 50 = vI (csD m.cs).length → getT σ.t 51 = vI p.length → getB σ.b 3 = some (mV m) → getB σ.b base = some (pV (b && decide (p.length = 0)) q) → WP X (.loop (lp Tryz.f65 1) σ K) Q
  | r, p, q, h, hq, hg, ht, h0, σ, g0, g3, g13, g14, g15, gb3, gb => by
    have hlen : m.cs.length = p.length + r.length := by rw [h]; simp
    have hsl : (csD m.cs).length = m.cs.length := by simp
    have hpl : r = [] → p.length = m.cs.length := fun e => by rw [hlen, e]; simp
    generalize hc : (b && decide (p.length = 0)) = c at h0 gb
    refine WP.round ⟨[(0, .box base 0), (3, .box 3 0), (49, .d (.sl 13 (csD m.cs))), (50, vI (csD m.cs).length), (51, vI p.length)], [(3, mV m), (base, pV c q)]⟩ ⟨⟨.inl g0.symm, .inl g3.symm, .inl g13.symm, .inl g14.symm, .inl g15.symm, trivial⟩, ⟨WkB.box gb3, WkB.box gb, trivial⟩⟩ ?_
    cases r with
    | nil =>
      rw [List.map_nil, wIt] at hq
      subst hq
      have hc' : (b && decide (m.cs.length = 0)) = c := by rw [← hc, hpl rfl]
      rw [hc'] at hK
      cases c
      all_goals
        refine WP.iteF (by rw [hsl]; simp at hlen; simp; omega) ?_
        exact WP.leaf ⟨⟨[(0, .box base 0), (3, .box 3 0)], [(3, mV m), (base, pV _ q)]⟩, ⟨⟨.inl rfl, .inl rfl, trivial⟩, ⟨WkB.box rfl, WkB.box rfl, trivial⟩⟩, hK hg ht h0⟩
    | cons y r =>
      simp only [List.length_cons] at hlen
      obtain ⟨hy, hyE⟩ := hr y (by rw [h]; simp)
      have hy' := hy
      unfold rightC at hy'
      rw [Bool.and_eq_true] at hy'
      rw [List.map_cons, wIt] at hq
      have hB : Bd (wC litP y q) := (hq ▸ hB9 : Bd _).of (gw_it _ gw_c _ _)
      have facts : ∀ (z : Bool) (q1 : PSt), Fr z q1 → Pg q1 → Bd (wCR y q1) →
          Does X 106 [.box base 0, .d (.sl 1 [[.str (mkB yConst)], [.str y.nm], [.str (mkB [61])]])] [pV z q1] (.ret (.tuple []) [pW (ptok [61] (pgap [32] (ptok (L y.nm) (pgap [32] (ptok yConst q1)))))]) ∧
          Does X 107 [.box base 0, .agg (eD y.e)] [pW (ptok [61] (pgap [32] (ptok (L y.nm) (pgap [32] (ptok yConst q1)))))] (.ret (.tuple []) [pW (wE litP y.e (pgap [32] (ptok [61] (pgap [32] (ptok (L y.nm) (pgap [32] (ptok yConst q1)))))))]) ∧
          Does X 71 [.box base 0, vS (mkB [59])] [pW (wE litP y.e (pgap [32] (ptok [61] (pgap [32] (ptok (L y.nm) (pgap [32] (ptok yConst q1)))))))] (.ret (.tuple []) [pW (ptok [59] (wE litP y.e (pgap [32] (ptok [61] (pgap [32] (ptok (L y.nm) (pgap [32] (ptok yConst q1))))))))]) ∧
          Does X 73 [.box base 0, vS (mkB [10])] [pW (ptok [59] (wE litP y.e (pgap [32] (ptok [61] (pgap [32] (ptok (L y.nm) (pgap [32] (ptok yConst q1))))))))] (.ret (.tuple []) [pW (wCR y q1)]) := by
        intro z q1 hz hg1 b5
        have b5' : Bd (pgap [10] (ptok [59] (wE litP y.e (pgap [32] (ptok [61] (pgap [32] (ptok (L y.nm) (pgap [32] (ptok yConst q1))))))))) := b5
        have b4 := b5'.of (gw_gap [10] _)
        have b3 := b4.of (gw_tok [59] _)
        have b2 := (b3.of (gw_e y.e _)).of (gw_gap [32] _)
        obtain ⟨d1, g1⟩ := toks3 hP (mkB yConst) y.nm (mkB [61]) (tk_lit (by simp)) (tk_word hy'.1) (tk_lit (by simp)) z q1 hz hg1 (by rw [L_mkB, L_mkB]; exact b2)
        rw [L_mkB, L_mkB] at d1 g1
        exact ⟨d1, after_does hP y.e hyE _ g1 b3, tok_lit hP _ (e_keep hy'.2 (g1.gap [32])).1 [59] (by simp) b4, gap_lit hP [10] _ b5'⟩
      have hkeep := it_keep (cons_is lit_facts hy) hg ht
      have hnext : ∀ (σ : St), getT σ.t 0 = .box base 0 → getT σ.t 3 = .box 3 0 → getT σ.t 49 = .d (.sl 13 (csD m.cs)) → getT σ.t 50 = vI (csD m.cs).length → getT σ.t 51 = vI (IntKind.i64.wrap ((p.length : Int) + 1)) → getB σ.b 3 = some (mV m) → getB σ.b base = some (pW (wC litP y q)) → WP X (.loop (lp Tryz.f65 1) σ K) Q := fun σ g0 g3 g13 g14 g15 gb3 gb => by
        have hf : (b && decide ((p ++ [y]).length = 0)) = false := by rw [decide_eq_false (by simp), Bool.and_false]
        refine cons_w hP m b hk hr p9 hB9 K Q hK r (p ++ [y]) _ (by rw [h]; simp) hq hkeep.1 hkeep.2 (by rw [hf]; exact Fr.no _) σ g0 g3 g13 g14 ?_ gb3 (by rw [hf]; exact gb)
        rw [g15, wrapI (by omega) (by omega)]; simp
      rw [wC_eq] at hB hnext
      cases hex : y.ex with
      | false =>
        rw [hex] at hB hnext
        obtain ⟨d1, d2, d3, d4⟩ := facts c q h0 hg hB
        cases c
        all_goals
          refine WP.iteT (by rw [hsl]; simp; omega) ?_
          refine WP.idx _ (by omega) (map_get _ h) ?_
          refine WP.iteF hex ?_
          refine WP.use1 d1 ?_
          refine WP.use1 d2 ?_
          refine WP.use1 d3 ?_
          refine WP.use1 d4 ?_
          exact WP.leaf (hnext _ rfl rfl rfl rfl rfl rfl rfl)
      | true =>
        rw [hex] at hB hnext
        have hB : Bd (wCR y (pgap [32] (ptok yExport q))) := hB
        have c2 := hB.of (gw_cr _ _)
        have c1 := c2.of (gw_gap [32] _)
        have e1 := tok_any hP c q h0 hg (mkB yExport) (by rw [L_mkB]; simp) (fun _ => by rw [L_mkB]; simp) (by rw [L_mkB]; exact c1)
        rw [L_mkB] at e1
        have k1 : Pg (ptok yExport q) := hg.any (by simp) (by simp)
        have e2 := gap_lit hP [32] _ c2
        obtain ⟨d1, d2, d3, d4⟩ := facts false (pgap [32] (ptok yExport q)) (Fr.no _) (k1.gap [32]) hB
        cases c
        all_goals
          refine WP.iteT (by rw [hsl]; simp; omega) ?_
          refine WP.idx _ (by omega) (map_get _ h) ?_
          refine WP.iteT hex ?_
          refine WP.use1 e1 ?_
          refine WP.use1 e2 ?_
          refine WP.use1 d1 ?_
          refine WP.use1 d2 ?_
          refine WP.use1 d3 ?_
          refine WP.use1 d4 ?_
          exact WP.leaf (hnext _ rfl rfl rfl rfl rfl rfl rfl)
end
end Go.Proofs.YtaddhpeainliiaaGreatDoor.Id
/-! ## PrPb -/
namespace Go.Proofs.YtaddhpeainliiaaGreatDoor.Id
open Go
set_option linter.unusedVariables false
set_option linter.unusedSimpArgs false
set_option maxRecDepth 100000
section
variable {X : Given}
theorem gw_fs : ∀ (l : List TFunc) (b : Bool), Gw (wFs (l.map (wF litP)) b)
  | [], b => fun p => Le.rfl
  | x :: r, b => fun p => by
    rw [List.map_cons, wFs]
    refine Le.to (gw_fs r true) (Le.to (gw_f x) ?_)
    split
    · exact gw_gap _ p
    · exact Le.rfl
theorem fn_keep {f : TFunc} (h : rightF f = true) {p : PSt} (hg : Pg p) (ht : p.tabs = 0) : Pg (wF litP f p) ∧ (wF litP f p).tabs = 0 := it_keep (func_is lit_facts h) hg ht
set_option maxHeartbeats 4000000 in
theorem funs_w (hP : LibP X) (m : TMod) (b : Bool) (hk : m.fs.length ≤ 1000000000) (hk1 : m.is.length ≤ 1000000000) (hk2 : m.cs.length ≤ 1000000000) (hbe : b = true → m.is.length + m.cs.length = 0)
    (hr : ∀ x ∈ m.fs, rightF x = true ∧ SmF x ∧ rgSs x.body ∧ szSs x.body + 1 ≤ tabMax) (p9 : PSt) (hB9 : Bd p9) (K : Ex → St → Id.T Out) (Q : Out → Prop)
    (hK : WP X (K (.exit 4) ⟨[(0, .box base 0)], [(base, pV (b && decide (m.fs.length = 0)) p9)]⟩) Q) :
    ∀ (r p : List TFunc) (q : PSt), m.fs = p ++ r → wFs (r.map (wF litP)) (decide (0 < p.length ∨ 0 < m.is.length + m.cs.length)) q = p9 → Pg q → q.tabs = 0 → Fr (b && decide (p.length = 0)) q → ∀ σ : St, getT σ.t 0 = .box base 0 → getT σ.t 3 = .box 3 0 → getT σ.t 76 = .d (.sl 6 (fsD m.fs)) → getT σ.t 77 = vI (fsD m.fs).length → getT σ.t 78 = vI p.length → getB σ.b 3 = some (mV m) → getB σ.b base = some (pV (b && decide (p.length = 0)) q) → WP X (.loop (lp Tryz.f65 2) σ K) Q
  | r, p, q, h, hq, hg, ht, h0, σ, g0, g3, g13, g14, g15, gb3, gb => by
    have hlen : m.fs.length = p.length + r.length := by rw [h]; simp
    have hsl : (fsD m.fs).length = m.fs.length := by simp
    have hsi : (isD' m.is).length = m.is.length := by simp
    have hsc : (csD m.cs).length = m.cs.length := by simp
    have hpl : r = [] → p.length = m.fs.length := fun e => by rw [hlen, e]; simp
    have hcb : (b && decide (p.length = 0)) = true → p.length = 0 ∧ m.is.length + m.cs.length = 0 := fun h => by
      rw [Bool.and_eq_true, decide_eq_true_eq] at h; exact ⟨h.2, hbe h.1⟩
    generalize hc : (b && decide (p.length = 0)) = c at h0 gb hcb
    refine WP.round ⟨[(0, .box base 0), (3, .box 3 0), (76, .d (.sl 6 (fsD m.fs))), (77, vI (fsD m.fs).length), (78, vI p.length)], [(3, mV m), (base, pV c q)]⟩ ⟨⟨.inl g0.symm, .inl g3.symm, .inl g13.symm, .inl g14.symm, .inl g15.symm, trivial⟩, ⟨WkB.box gb3, WkB.box gb, trivial⟩⟩ ?_
    cases r with
    | nil =>
      rw [List.map_nil, wFs] at hq
      subst hq
      have hc' : (b && decide (m.fs.length = 0)) = c := by rw [← hc, hpl rfl]
      rw [hc'] at hK
      cases c
      all_goals
        refine WP.iteF (by rw [hsl]; simp at hlen; simp; omega) ?_
        exact WP.leaf ⟨⟨[(0, .box base 0)], [(base, pV _ q)]⟩, ⟨⟨.inl rfl, trivial⟩, ⟨WkB.box rfl, trivial⟩⟩, hK⟩
    | cons y r =>
      simp only [List.length_cons] at hlen
      obtain ⟨y1, y2, y3, y4⟩ := hr y (by rw [h]; simp)
      rw [List.map_cons, wFs] at hq
      have hnext : ∀ (q1 : PSt) (σ : St), Pg q1 → q1.tabs = 0 → wFs (r.map (wF litP)) true (wF litP y q1) = p9 → getT σ.t 0 = .box base 0 → getT σ.t 3 = .box 3 0 → getT σ.t 76 = .d (.sl 6 (fsD m.fs)) → getT σ.t 77 = vI (fsD m.fs).length → getT σ.t 78 = vI (IntKind.i64.wrap ((p.length : Int) + 1)) → getB σ.b 3 = some (mV m) → getB σ.b base = some (pW (wF litP y q1)) → WP X (.loop (lp Tryz.f65 2) σ K) Q := fun q1 σ hg1 ht1 hq1 g0 g3 g13 g14 g15 gb3 gb => by
        have hkeep := fn_keep y1 hg1 ht1
        have hf : (b && decide ((p ++ [y]).length = 0)) = false := by rw [decide_eq_false (by simp), Bool.and_false]
        refine funs_w hP m b hk hk1 hk2 hbe hr p9 hB9 K Q hK r (p ++ [y]) _ (by rw [h]; simp) ?_ hkeep.1 hkeep.2 (by rw [hf]; exact Fr.no _) σ g0 g3 g13 g14 ?_ gb3 (by rw [hf]; exact gb)
        · rw [decide_eq_true (.inl (by simp))]; exact hq1
        · rw [g15, wrapI (by omega) (by omega)]; simp
      by_cases hsep : 0 < p.length ∨ 0 < m.is.length + m.cs.length
      · have hcf : c = false := by
          cases hcc : c with
          | false => rfl
          | true => have := hcb hcc; omega
        subst hcf
        rw [decide_eq_true hsep, if_pos rfl] at hq
        have b2 : Bd (wF litP y (pgap [10] q)) := (hq ▸ hB9 : Bd _).of (gw_fs _ _ _)
        have b1 := b2.of (gw_f y _)
        have d1 := gap_lit hP [10] q b1
        have d2 := func_w hP y y1 y2 y3 false _ (Fr.no _) (hg.gap [10]) (by rw [pgap_tabs, ht]; omega) b2
        by_cases hp : 0 < p.length
        · refine WP.iteT (by rw [hsl]; simp; omega) ?_
          refine WP.idx _ (by omega) (map_get _ h) ?_
          refine WP.iteT (decide_eq_true (by omega)) ?_
          refine WP.use1 d1 ?_
          refine WP.use1 d2 ?_
          exact WP.leaf (hnext _ _ (hg.gap [10]) (by rw [pgap_tabs, ht]) hq rfl rfl rfl rfl rfl rfl rfl)
        · refine WP.iteT (by rw [hsl]; simp; omega) ?_
          refine WP.idx _ (by omega) (map_get _ h) ?_
          refine WP.iteF (decide_eq_false (by omega)) ?_
          refine WP.iteT (decide_eq_true (by rw [wrapI (by rw [hsi, hsc]; omega) (by rw [hsi, hsc]; omega), hsi, hsc]; omega)) ?_
          refine WP.use1 d1 ?_
          refine WP.use1 d2 ?_
          exact WP.leaf (hnext _ _ (hg.gap [10]) (by rw [pgap_tabs, ht]) hq rfl rfl rfl rfl rfl rfl rfl)
      · rw [decide_eq_false hsep, if_neg (by simp)] at hq
        have b2 : Bd (wF litP y q) := (hq ▸ hB9 : Bd _).of (gw_fs _ _ _)
        have d2 := func_w hP y y1 y2 y3 c q h0 hg (by rw [ht]; omega) b2
        cases c
        all_goals
          refine WP.iteT (by rw [hsl]; simp; omega) ?_
          refine WP.idx _ (by omega) (map_get _ h) ?_
          refine WP.iteF (decide_eq_false (by omega)) ?_
          refine WP.iteF (decide_eq_false (by rw [wrapI (by rw [hsi, hsc]; omega) (by rw [hsi, hsc]; omega), hsi, hsc]; omega)) ?_
          refine WP.use1 d2 ?_
          exact WP.leaf (hnext q _ hg ht hq rfl rfl rfl rfl rfl rfl rfl)
end
end Go.Proofs.YtaddhpeainliiaaGreatDoor.Id
/-! ## PrPc -/
namespace Go.Proofs.YtaddhpeainliiaaGreatDoor.Id
open Go
set_option linter.unusedVariables false
set_option linter.unusedSimpArgs false
set_option maxRecDepth 100000
section
variable {X : Given}
abbrev pst0 (t : Bool) : PSt := ⟨[], t, 0, 0, 0, 0⟩
def mempty (m : TMod) : Bool := ((true && decide (m.is.length = 0)) && decide (m.cs.length = 0)) && decide (m.fs.length = 0)
theorem pg0 (t : Bool) : Pg (pst0 t) := ⟨Int.le_refl _, Int.le_refl _, Int.le_refl _⟩
theorem szSs_f (m : TMod) : ∀ f ∈ m.fs, szSs f.body ≤ szM m := fun f hf => by
  have h := sumN_mem szF hf
  unfold szM
  have : szSs f.body ≤ szF f := by unfold szF; omega
  omega
set_option maxHeartbeats 4000000 in
theorem module_w (hP : LibP X) (m : TMod) (hr : rightM m = true) (hs : SmM m) (hv : RgM m) (hz : szM m ≤ 1073741824) (t : Bool) (hB : Bd (wM litP qtP m (pst0 t))) : Does X 65 [.box base 0, .agg (mD m)] [pN (pst0 t)] (.ret (.tuple []) [pV (mempty m) (wM litP qtP m (pst0 t))]) := by
  have hr0 := hr
  unfold rightM at hr
  simp only [Bool.and_eq_true, List.all_eq_true] at hr
  obtain ⟨hi, hc, hf⟩ := hr
  have hcE : ∀ x ∈ m.cs, rightC x = true ∧ ExprOK X x.e := fun x hx => by
    have h := hc x hx
    have h' := h
    unfold rightC at h'
    rw [Bool.and_eq_true] at h'
    exact ⟨h, expr_w hP _ x.e (Nat.lt_succ_self _) h'.2 (hs.cs x hx).2 (hv.cs x hx)⟩
  have hfE : ∀ x ∈ m.fs, rightF x = true ∧ SmF x ∧ rgSs x.body ∧ szSs x.body + 1 ≤ tabMax := fun x hx => ⟨hf x hx, hs.fs x hx, hv.fs x hx, by have := szSs_f m x hx; unfold tabMax; omega⟩
  have hsi : (isD' m.is).length = m.is.length := by simp
  have hsc : (csD m.cs).length = m.cs.length := by simp
  obtain ⟨p1, h1⟩ : ∃ p1, p1 = wIt (m.is.map (wI qtP)) (pst0 t) := ⟨_, rfl⟩
  obtain ⟨p2, h2⟩ : ∃ p2, p2 = if 0 < m.is.length ∧ 0 < m.cs.length then pgap [10] p1 else p1 := ⟨_, rfl⟩
  obtain ⟨p3, h3⟩ : ∃ p3, p3 = wIt (m.cs.map (wC litP)) p2 := ⟨_, rfl⟩
  have hM : wM litP qtP m (pst0 t) = wFs (m.fs.map (wF litP)) (decide (0 < m.is.length + m.cs.length)) p3 := by rw [h3, h2, h1]; rfl
  rw [hM] at hB ⊢
  have b3 : Bd p3 := hB.of (gw_fs m.fs _ _)
  have b3' := b3
  rw [h3] at b3'
  have b2 : Bd p2 := b3'.of (gw_it _ gw_c m.cs _)
  have b1 : Bd p1 := b2.of (by rw [h2]; split; exact gw_gap _ _; exact Le.rfl)
  refine DoesQ.eq (DoesQ.of Tryz.func65 (by kernel_rfl) ?_)
  refine incs_w hP m true hs.ni hi p1 b1 _ _ (fun g1 t1 f1 => ?_) m.is [] (pst0 t) rfl h1.symm (pg0 t) rfl (fun _ => ⟨rfl, rfl⟩) _ rfl rfl rfl rfl rfl rfl rfl
  by_cases ki : m.is.length = 0
  · have e1 : (true && decide (m.is.length = 0)) = true := by rw [decide_eq_true ki]; rfl
    rw [e1] at f1 ⊢
    have e2 : p2 = p1 := by rw [h2, if_neg (by omega)]
    subst e2
    refine WP.iteF (decide_eq_false (by rw [hsi]; omega)) ?_
    refine cons_w hP m true hs.nc hcE p3 b3 _ _ (fun g3 t3 f3 => ?_) m.cs [] p2 rfl h3.symm g1 t1 f1 _ rfl rfl rfl rfl rfl rfl rfl
    refine funs_w hP m (true && decide (m.cs.length = 0)) hs.nf hs.ni hs.nc (fun h => by rw [Bool.true_and, decide_eq_true_eq] at h; omega) hfE _ hB _ _ ?_ m.fs [] p3 rfl (by simp) g3 t3 (by simpa using f3) _ rfl rfl rfl rfl rfl rfl (by simp; rfl)
    unfold mempty
    rw [e1]
    generalize ((true && decide (m.cs.length = 0)) && decide (m.fs.length = 0)) = c
    cases c
    all_goals exact WP.leaf rfl
  · have e1 : (true && decide (m.is.length = 0)) = false := by rw [decide_eq_false ki]; rfl
    rw [e1] at f1 ⊢
    have em : mempty m = false := by unfold mempty; rw [e1]; rfl
    rw [em]
    refine WP.iteT (decide_eq_true (by rw [hsi]; omega)) ?_
    by_cases kc : m.cs.length = 0
    · have e2 : p2 = p1 := by rw [h2, if_neg (by omega)]
      subst e2
      refine WP.iteF (decide_eq_false (by rw [hsc]; omega)) ?_
      refine cons_w hP m false hs.nc hcE p3 b3 _ _ (fun g3 t3 f3 => ?_) m.cs [] p2 rfl h3.symm g1 t1 (Fr.no _) _ rfl rfl rfl rfl rfl rfl rfl
      refine funs_w hP m false hs.nf hs.ni hs.nc (fun h => by cases h) hfE _ hB _ _ ?_ m.fs [] p3 rfl (by simp) g3 t3 (Fr.no _) _ rfl rfl rfl rfl rfl rfl rfl
      exact WP.leaf rfl
    · have e2 : p2 = pgap [10] p1 := by rw [h2, if_pos (by omega)]
      have d1 := gap_lit hP [10] p1 (by rw [← e2]; exact b2)
      rw [← e2] at d1
      have g2 : Pg p2 := by rw [e2]; exact g1.gap [10]
      have t2 : p2.tabs = 0 := by rw [e2, pgap_tabs, t1]
      refine WP.iteT (decide_eq_true (by rw [hsc]; omega)) ?_
      refine WP.use1 d1 ?_
      refine cons_w hP m false hs.nc hcE p3 b3 _ _ (fun g3 t3 f3 => ?_) m.cs [] p2 rfl h3.symm g2 t2 (Fr.no _) _ rfl rfl rfl rfl rfl rfl rfl
      refine funs_w hP m false hs.nf hs.ni hs.nc (fun h => by cases h) hfE _ hB _ _ ?_ m.fs [] p3 rfl (by simp) g3 t3 (Fr.no _) _ rfl rfl rfl rfl rfl rfl rfl
      exact WP.leaf rfl
end
end Go.Proofs.YtaddhpeainliiaaGreatDoor.Id
/-! ## LibWr -/
namespace Go.Proofs.YtaddhpeainliiaaGreatDoor.Id
open Go Go.RowKit
set_option linter.unusedVariables false
set_option linter.unusedSimpArgs false
noncomputable abbrev wrc : Code := codeOf Tryz.f44
set_option maxHeartbeats 4000000 in
set_option maxRecDepth 100000 in
theorem wr_tail (b : Nat) (n : Int) (s : ByteArray) (R : Ending → World → Prop) (w : World) (a : Act) (hsz : a.tmps.size = 21) (hdf : a.defers = []) (h6 : a.tmps.getD 6 undef = .pointer (some ⟨b, 0, none⟩)) (hc : w.cell? ⟨b, 6, none⟩ = some (.int .i64 n))
    (hcall : Calls Tryz.prog 52 #[.pointer (some ⟨b, 0, none⟩)] w.drew fun e w' => e = .returned (.string s) ∧ w'.cell? ⟨b, 6, none⟩ = some (.int .i64 n) ∧ R (.returned (.tuple #[.string s, .int .i64 n])) w') :
    (seqR (seqR (seqR wrc))).wp Tryz.prog (bodyPostD Tryz.prog Tryz.f44 R) a w := by
  obtain ⟨⟨l⟩, df⟩ := a
  have hdf : df = [] := hdf
  subst hdf
  have hsz : l.length = 21 := hsz
  match l, hsz with
  | [t0, t1, t2, t3, t4, t5, t6, t7, t8, t9, t10, t11, t12, t13, t14, t15, t16, t17, t18, t19, t20], _ =>
    have h6 : t6 = .pointer (some ⟨b, 0, none⟩) := h6
    subst h6
    have hc' : w.drew.cell? ⟨b, 6, none⟩ = some (.int .i64 n) := hc
    conv => arg 2; whnf
    refine wp_seq ?_
    go_region_held3 (fun w' => w'.cell? ⟨b, 6, none⟩ = some (.int .i64 n)) (assumption)
      (first | (go_at_call 52; refine hcall.mono ?_; rintro e w' ⟨rfl, hc2, hR⟩))
    all_goals refine wp_ret ?_
    all_goals exact ⟨_, results_eq Tryz.f44 _ w' (vs := [.string s, .int .i64 n]) rfl, hR⟩
set_option maxHeartbeats 4000000 in
set_option maxRecDepth 100000 in
theorem wr_mid (t : Bool) (Q : Exit → Act → World → Prop) (w : World) (a : Act) (hsz : a.tmps.size = 21) (h1 : a.tmps.getD 1 undef = .bool t)
    (hK : ∀ a' : Act, a'.tmps.size = 21 → a'.defers = a.defers → a'.tmps.getD 2 undef = a.tmps.getD 2 undef → a'.tmps.getD 6 undef = .pointer (some ⟨w.heap.size, 0, none⟩) → Q .normal a' (w.alloc (.cells #[.pointer none, .slice none 0 0, .bool t, .int .u8 0, .int .i64 0, .int .i64 0, .int .i64 0] 107))) :
    (seqL (seqR wrc)).wp Tryz.prog Q a w := by
  obtain ⟨⟨l⟩, df⟩ := a
  have hsz : l.length = 21 := hsz
  match l, hsz with
  | [t0, t1, t2, t3, t4, t5, t6, t7, t8, t9, t10, t11, t12, t13, t14, t15, t16, t17, t18, t19, t20], _ =>
    have h1 : t1 = .bool t := h1
    subst h1
    conv => arg 2; whnf
    go_wp2
    exact hK _ rfl rfl rfl rfl
section
variable {I : World → Prop} {B0 : Nat} {M : Nat → Prop}
abbrev wrT0 (t : Bool) : Tmps := [(1, vB t), (2, .box 2 0)]
abbrev wrT1 : Tmps := [(2, .box 2 0), (6, .box 9 0)]
abbrev wrN (t : Bool) : List V := [.nilp, .d (.nil 1), vB t, vC 0, vI 0, vI 0, vI 0]
/-- where the printer comes to -/
def WrEnd (bs : List UInt8) (n : Int) : Ex × St → Prop := fun p => p.1 = .normal ∧ getT p.2.t 6 = .box 9 0 ∧ ∃ c0 buf c2 c3 c4 c5 : V, getB p.2.b 9 = some [c0, buf, c2, c3, c4, c5, vI n] ∧ (buf = .d (.nil 1) ∧ bs = [] ∨ ∃ k, buf = .own k 1 (bs.map byteD) ∧ bs ≠ [])
structure WrRun (X : Given) (m : TMod) (t : Bool) (bs : List UInt8) (n : Int) : Prop where
  max : bs.length ≤ 9223372036854775807
  r0 : WP X (evCode tt none (seqL wrc) [(0, .agg (mD m)), (1, vB t)] []) fun p => p.1 = .normal ∧ (∀ q ∈ wrT0 t, getT p.2.t q.1 = q.2) ∧ ∀ q ∈ [(2, mV m)], getB p.2.b q.1 = some q.2
  r2 : WP X (evCode tt none (seqL (seqR (seqR wrc))) wrT1 [(9, wrN t), (2, mV m)]) (WrEnd bs n)
def WrX (X : Given) : Given := fun f args bx o => X f args bx o ∨ (f = 44 ∧ ∃ (m : TMod) (t : Bool) (bs : List UInt8) (n : Int), args = [.agg (mD m), vB t] ∧ bx = [] ∧ o = .ret (.tuple [vS (mkB bs), vI n]) [] ∧ WrRun X m t bs n)
theorem no_box {i : Nat} {cs : List V} (h : getB [] i = some cs) : False := by cases h
set_option maxHeartbeats 2000000 in
theorem wr_ok (hm : Tryz.prog.follows .mixedOrders = true) (hI : Stable I B0) {X : Given} (hX : GivenOK Tryz.prog X I B0) {m : TMod} {t : Bool} {bs : List UInt8} {n : Int} (hr : WrRun X m t bs n) :
    CallOK Tryz.prog I B0 44 [.agg (mD m), vB t] [] (.ret (.tuple [vS (mkB bs), vI n]) []) := by
  intro M x w vs hargs S
  have S0 : Sim I B0 M 21 x [(0, .agg (mD m)), (1, vB t)] [] _ w := sim0 (nt := 21) hargs (by simp) S
  refine calls_of_wp_defers Tryz.func44 rfl ?_
  show wrc.wp _ _ _ _
  refine wp_seq (wp_mono (run_ok hm hI hX (nt := 21) (by decide) (by kernel_rfl) (fun h => by cases h) S0 hr.r0) ?_)
  rintro en a1 w1 ⟨ex, σ, ⟨hex, h1, h2⟩, hb⟩
  have hex' : ex = .normal := hex
  subst hex'
  obtain ⟨rfl, x1, hE1, S1⟩ := hb.normal
  have S1 := S1.trim h1 h2
  have hb1 : a1.tmps.getD 1 undef = .bool t := by
    have : RepD x1.h (a1.tmps.getD 1 undef) (.bool t) := S1.tm 1
    generalize a1.tmps.getD 1 undef = v at this
    cases this; rfl
  refine wp_seq (wr_mid t _ w1 a1 S1.sz hb1 fun a2 g1 g2 g3 g4 => ?_)
  obtain ⟨x2, hx⟩ := EffOK.newBox S1 hI (w' := w1.alloc (.cells #[.pointer none, .slice none 0 0, .bool t, .int .u8 0, .int .i64 0, .int .i64 0, .int .i64 0] 107)) 9 (by decide) (wrN t) #[.pointer none, .slice none 0 0, .bool t, .int .u8 0, .int .i64 0, .int .i64 0, .int .i64 0] 107 rfl rfl rfl rfl
    (fun x' _ _ _ _ => ⟨_, _, rfl, rfl, _, _, rfl, RepD.nil 1, _, _, rfl, RepD.bool _, _, _, rfl, RepD.int _ _, _, _, rfl, RepD.int _ _, _, _, rfl, RepD.int _ _, _, _, rfl, RepD.int _ _, rfl⟩) (fun _ => by kernel_rfl)
  have hE2 := hx.ext
  have S2 : Sim I B0 M 21 x2 wrT1 [(9, wrN t), (2, mV m)] a2 (w1.alloc (.cells #[.pointer none, .slice none 0 0, .bool t, .int .u8 0, .int .i64 0, .int .i64 0, .int .i64 0] 107)) := by
    refine ⟨fun i => ?_, g1, g2.trans S1.df, hx.ws [(2, mV m)] (fun i => ?_)⟩
    · match i with
      | 2 =>
        show RepV x2 (.box 2 0) (a2.tmps.getD 2 undef)
        have h := S1.tm 2
        have h : a1.tmps.getD 2 undef = .pointer (some ⟨x1.ρ 2, 0, none⟩) := h
        rw [g3, h, ← hx.ρ 2 (by simp)]
        rfl
      | 6 =>
        show RepV x2 (.box 9 0) (a2.tmps.getD 6 undef)
        rw [g4]
        exact hx.rv
      | 0 | 1 | 3 | 4 | 5 => trivial
      | n + 7 => trivial
    · simp only [getB]
      split <;> rfl
  show (seqR (seqR wrc)).wp _ _ _ _
  refine wp_seq (wp_mono (run_ok hm hI hX (nt := 21) (by decide) (by kernel_rfl) (fun h => by cases h) S2 hr.r2) ?_)
  rintro en a3 w3 ⟨ex, σ, ⟨hex, h6, c0, buf, c2, c3, c4, c5, h9, hbuf⟩, hb⟩
  have hex' : ex = .normal := hex
  subst hex'
  obtain ⟨rfl, x3, hE3, S3⟩ := hb.normal
  have S3 := S3.trim (t' := [(6, .box 9 0)]) (b' := [(9, [c0, buf, c2, c3, c4, c5, vI n])]) (List.forall_mem_cons.2 ⟨h6, List.forall_mem_nil _⟩) (List.forall_mem_cons.2 ⟨h9, List.forall_mem_nil _⟩)
  have hE := (hE1.trans hE2).trans hE3
  have hp : a3.tmps.getD 6 undef = .pointer (some ⟨x3.ρ 9, 0, none⟩) := S3.tm 6
  obtain ⟨hM, hnn, ws, ty, hg, hr9⟩ := S3.ws.box 9 _ rfl
  obtain ⟨v0, l0, e0, q0, v1, l1, e1, q1, v2, l2, e2, q2, v3, l3, e3, q3, v4, l4, e4, q4, v5, l5, e5, q5, v6, l6, e6, q6, e7⟩ := hr9
  subst e7 e6 e5 e4 e3 e2 e1
  have hv6 : v6 = .int .i64 n := by
    have : RepD x3.h v6 (.int .i64 n) := q6
    cases this; rfl
  have hcell : ∀ (j : Nat) (v : Value), [v0, v1, v2, v3, v4, v5, v6][j]? = some v → w3.cell? ⟨x3.ρ 9, j, none⟩ = some v := fun j v hj => by
    unfold World.cell?
    rw [hg]
    simp only [Option.isSome_none, Bool.false_eq_true, if_false]
    rw [← Array.getElem?_toList, e0]; exact hj
  have hc1 := hcell 1 v1 rfl
  have hc6 := hcell 6 v6 rfl
  rw [hv6] at hc6
  have W := S3.ws
  have hend : ∀ (w' : World) (g : Option Nat), (∀ q, (∀ z, g = some z → q ≠ z) → w'.heap[q]? = w3.heap[q]?) → w'.heap.size = w3.heap.size → (∀ p v, w3.cell? p = some v → w'.cell? p = some v) → (∀ z, g = some z → M z ∧ ∃ ws2 f2, w'.heap[z]? = some (.cells ws2 u8t f2)) → w'.os = w3.os ∧ w'.tape = w3.tape ∧ w'.output = w3.output →
      ∃ x', Ext M x w x' w' ∧ ∃ rv, Ending.returned (.tuple #[.string (mkB bs), .int .i64 n]) = Ending.returned rv ∧ RepN x' (.tuple [vS (mkB bs), vI n]) rv ∧ WSim I B0 M x' (number base [] 0) w' := by
    intro w' g hoth hsize hcl hgM hio
    have hgB : ∀ q, ¬ M q → ∀ z, g = some z → q ≠ z := fun q hq z hz e => hq (e ▸ (hgM z hz).1)
    refine ⟨{ x3 with z := fun _ => none }, hE.trans ⟨hio.1, hio.2.1, hio.2.2, by rw [hsize]; exact Nat.le_refl _, fun q hq => hoth q (hgB q hq), fun _ _ _ h => h, fun _ _ => rfl, fun _ _ => rfl, fun _ h => h⟩, _, rfl, ⟨#[.string (mkB bs), .int .i64 n], rfl, _, _, rfl, RepD.str _, _, _, rfl, RepD.int _ _, rfl⟩, ?_⟩
    refine ⟨hI w3 w' (fun q hq => hoth q (fun z hz e => ?_)) (by rw [hsize]; exact Nat.le_refl _) W.inv, W.big, fun q hq => W.top q (by rw [← hsize]; exact hq), fun q o v hv => hcl _ _ (W.agree q o v hv), fun i c hc => (no_box hc).elim, fun i j c d hc _ _ => (no_box hc).elim, fun t' q s e' h => (by cases h), fun t' t'' q s e1 s' e2 h1 _ => (by cases h1), fun t' q s e' i c h1 _ => (by cases h1), fun q hq => ?_, fun i c hc => (no_box hc).elim⟩
    · have := W.big z (hgM z hz).1; omega
    · by_cases hz : ∃ z, g = some z ∧ q = z
      · obtain ⟨z, hz, rfl⟩ := hz
        exact (hgM q hz).2
      · obtain ⟨w4, f4, h4⟩ := W.uu q hq
        exact ⟨w4, f4, by rw [hoth q (fun z hz' e => hz ⟨z, hz', e⟩)]; exact h4⟩
  refine wr_tail (x3.ρ 9) n (mkB bs) _ w3 a3 S3.sz S3.df hp hc6 ?_
  rcases hbuf with ⟨rfl, rfl⟩ | ⟨k, rfl, hne⟩
  · have hv1 : v1 = .slice none 0 0 := by cases (RepV.d q1); rfl
    subst hv1
    refine (P.bs_nil (x3.ρ 9) w3.drew hc1).mono fun e w' ⟨he, hw⟩ => ?_
    subst hw
    refine ⟨he, hc6, hend _ none (fun _ _ => rfl) rfl (fun _ _ h => h) (fun z hz => by cases hz) ⟨rfl, rfl, rfl⟩⟩
  · rcases (show RepOwn x3 k 1 (bs.map byteD) v1 from q1) with ⟨_, h2, _⟩ | ⟨g, cap, hv1, hz, hD, h8, _⟩
    · exact absurd (by simpa using h2) hne
    subst hv1
    obtain ⟨hMg, hle, hnone, ws2, tyy, hg2, hsz⟩ := W.zone k g _ _ hz
    have hug : x3.u g := h8 (by
      cases bs with
      | nil => exact absurd rfl hne
      | cons c r => exact ⟨_, r.map byteD, rfl⟩)
    obtain ⟨ws3, f3, hg3⟩ := W.uu g hug
    rw [hg2] at hg3
    have hty : tyy = u8t := by injection hg3 with h; injection h
    subst hty
    have hcap : bs.length ≤ cap := by
      have : (bs.map byteD).length * 1 ≤ cap * 1 := hle
      simpa using this
    have hcells : ∀ j c, bs[j]? = some c → w3.drew.cell? ⟨g, j, none⟩ = some (.int .u8 c.toNat) := fun j c hj => by
      obtain ⟨z, h2, h3⟩ := sl_cells hD j (.int .u8 (c.toNat : Int)) (by rw [List.getElem?_map, hj]; rfl)
      show w3.cell? _ = _
      rw [W.agree _ _ _ h2]
      cases h3; rfl
    have hcell' : w3.drew.cell? ⟨x3.ρ 9, 1, none⟩ = some (.slice (some ⟨g, 0, none⟩) bs.length cap) := by
      show w3.cell? _ = _
      rw [hc1, List.length_map]
    refine (P.bs_row (x3.ρ 9) g cap w3.drew bs hne hcell' hcap (e := u8t) (cells := cap) (by show w3.shape? g = _; unfold World.shape?; rw [hg2]; simp only; rw [hsz, Nat.mul_one]) hcap hr.max hcells rfl).mono fun e w' ⟨he, hw⟩ => ?_
    have hcl : ∀ p v, w3.cell? p = some v → w'.cell? p = some v := fun p v h => by rw [hw]; exact freeze_cell w3.drew.drew g _ p h
    refine ⟨he, hcl _ _ hc6, hend w' (some g) (fun q hq => by rw [hw]; exact freeze_other w3.drew.drew g _ q (hq g rfl)) (by rw [hw]; exact freeze_size w3.drew.drew g _) hcl (fun z hz => ?_) (by rw [hw]; unfold World.freeze; split <;> exact ⟨rfl, rfl, rfl⟩)⟩
    cases hz
    obtain ⟨f', h'⟩ := freeze_same w3.drew.drew g bs.length hg2
    exact ⟨hMg, ws2, f', by rw [hw]; exact h'⟩
theorem wrX_ok (hm : Tryz.prog.follows .mixedOrders = true) (hI : Stable I B0) {X : Given} (hX : GivenOK Tryz.prog X I B0) : GivenOK Tryz.prog (WrX X) I B0 := by
  rintro f args bx o (h | ⟨rfl, m, t, bs, n, rfl, rfl, rfl, hr⟩)
  · exact hX f args bx o h
  · exact ⟨⟨_, Tryz.func44, by kernel_rfl, rfl⟩, wr_ok hm hI hX hr⟩
end
end Go.Proofs.YtaddhpeainliiaaGreatDoor.Id
/-! ## LibRep -/
namespace Go.Proofs.YtaddhpeainliiaaGreatDoor.Id
open Go
set_option linter.unusedVariables false
set_option linter.unusedSimpArgs false
def RepX (X : Given) : Given := fun f args bx o => X f args bx o ∨
  (f = 200 ∧ ∃ n : Nat, n ≤ 140737488355328 ∧ args = [vS (mkB [9]), vI n] ∧ bx = [] ∧ o = .ret (vS (mkB (List.replicate n 9))) [])
theorem repX_ok {X : Given} {I : World → Prop} {B0 : Nat} (hI : Stable I B0) (hX : GivenOK Tryz.prog X I B0) : GivenOK Tryz.prog (RepX X) I B0 := by
  rintro f args bx o (h | ⟨rfl, n, h0, rfl, rfl, rfl⟩)
  · exact hX f args bx o h
  · refine ⟨⟨_, Tryz.func200, by kernel_rfl, rfl⟩, fun M x w vs hv S => ?_⟩
    obtain ⟨v, l1, hl1, hv1, v2, l2, rfl, hv2, rfl⟩ := hv
    obtain rfl := rep_str hv1
    obtain rfl := rep_i64 hv2
    obtain rfl : vs = #[.string (mkB [9]), .int .i64 n] := by cases vs; simp_all
    refine (Tryz.strings_Repeat (mkB [9]) n w (by omega) (by show 1 * n ≤ _; omega)).mono fun e w' ⟨he, hb⟩ => ?_
    have e1 : (⟨(Lib.repeatL (mkB [9]).data.toList n).toArray⟩ : ByteArray) = mkB (List.replicate n 9) := by
      have := Lib.repeatL_replicate 9 1 n
      rw [Nat.mul_one] at this
      rw [show (mkB [9]).data.toList = List.replicate 1 9 from rfl, this]
    rw [e1] at he
    exact ⟨x, Ext.below S hb, _, he, RepD.str _, S.below hI hb⟩
set_option maxRecDepth 100000 in
theorem bld7 : BldAt 7 := by
  intro t h
  have h : Nat.beq t 107 = true := h
  have e : t = 107 := Nat.eq_of_beq_eq_true h
  subst e
  exact (show liesAt Tryz.prog Tryz.prog.depth 107 (7 / Tryz.prog.cellsOf 107) 0 105 1 = true by kernel_rfl)
/-- what the print is given -/
def XP : Given := RepX (FmtX (StrX (CcX X0)))
theorem xp_x0 {f : FuncId} {args : List V} {bx : List (List V)} {o : Out} (h : X0 f args bx o) : XP f args bx o := .inl (.inl (.inl (.inl h)))
theorem xp_lib : LibX XP := ⟨fun s c r h1 h2 h3 h4 => xp_x0 (x0_lib.wh s c r h1 h2 h3 h4), fun s c => xp_x0 (x0_lib.ib s c)⟩
theorem xp_p : LibP XP where
  lib := xp_lib
  cc c0 rest hl hc := .inl (.inl (.inl (.inr ⟨rfl, c0, rest, by rw [hl]; exact bld7, hc, rfl, rfl, rfl⟩)))
  str c0 buf rest bs h1 h2 := .inl (.inl (.inr ⟨rfl, c0, buf, rest, bs, h1, h2, rfl, rfl, rfl⟩))
  fmt v h1 h2 := .inl (.inr ⟨rfl, v, h1, h2, rfl, rfl, rfl⟩)
  rep n h := .inr ⟨rfl, n, h, rfl, rfl, rfl⟩
/-- print.written is given besides -/
def XW : Given := WrX XP
theorem xw_lib : LibX XW := ⟨fun s c r h1 h2 h3 h4 => .inl (xp_lib.wh s c r h1 h2 h3 h4), fun s c => .inl (xp_lib.ib s c)⟩
theorem xw_p : LibP XW := ⟨xw_lib, fun c0 rest h1 h2 => .inl (xp_p.cc c0 rest h1 h2), fun c0 buf rest bs h1 h2 => .inl (xp_p.str c0 buf rest bs h1 h2), fun v h1 h2 => .inl (xp_p.fmt v h1 h2), fun n h => .inl (xp_p.rep n h)⟩
theorem xw_ok {B0 : Nat} (hI : Stable P.Inv B0) : GivenOK Tryz.prog XW P.Inv B0 := wrX_ok mixed hI (repX_ok hI (fmtX_ok hI (strX_ok hI (ccX_ok hI (x0_ok hI)))))
/-- a law that comes to true, as a row asks it; what the print asks of the library is given -/
theorem row_doesP {w : World} (hI : P.Inv w) {f : FuncId} {args : List V} {vs : Array Value} (hargs : RepVs (seen w) args vs.toList) (h : Does (OrX XW) f args [] (.ret (vB true) [])) :
    Calls Tryz.prog f vs w fun e w' => e = .returned (.bool true) ∧ Go.RowKit.Below w.heap.size w w' := by
  have hS := inv_stable hI
  have hX := orX_ok mixed hS (xw_ok hS)
  obtain ⟨n, hn⟩ := h Out (fun o => .leaf o) (.ret (vB true) []) (Den.leaf _)
  obtain ⟨o, _, hC, hl⟩ := den_call hX (below_all mixed tt_ok hS hX n) hn
  obtain rfl : o = .ret (vB true) [] := by cases hl; rfl
  refine (hC _ (seen w) w vs hargs (seen_wsim hI)).mono fun e w' ⟨x', hE, rv, he, hr, _⟩ => ?_
  refine ⟨?_, ⟨hE.os, hE.tape, hE.output, hE.size, fun k hk => hE.blk k (by omega)⟩⟩
  rw [he]
  have : RepD x'.h rv (.bool true) := hr
  cases this
  rfl
end Go.Proofs.YtaddhpeainliiaaGreatDoor.Id
/-! ## PrR -/
namespace Go.Proofs.YtaddhpeainliiaaGreatDoor.Id
open Go
set_option linter.unusedVariables false
set_option linter.unusedSimpArgs false
set_option maxRecDepth 100000
theorem rM_empty {m : TMod} (h : mempty m = true) (t : Bool) : rM litP qtP m t = [] := by
  unfold mempty at h
  simp only [Bool.true_and, Bool.and_eq_true, decide_eq_true_eq, List.length_eq_zero_iff] at h
  obtain ⟨⟨h1, h2⟩, h3⟩ := h
  unfold rM
  rw [h1, h2, h3]
  rfl
theorem rM_full {m : TMod} (h : mempty m = false) (t : Bool) : rM litP qtP m t ≠ [] := by
  unfold mempty at h
  unfold rM
  intro e
  simp only [List.append_eq_nil_iff] at e
  obtain ⟨e1, _, e2, e3⟩ := e
  have i1 : m.is = [] := by
    cases hi : m.is with
    | nil => rfl
    | cons x r => rw [hi, List.map_cons, rIt] at e1; unfold rI at e1; simp at e1
  have i2 : m.cs = [] := by
    cases hi : m.cs with
    | nil => rfl
    | cons x r =>
      rw [hi, List.map_cons, rIt] at e2; unfold rC rExp at e2
      split at e2 <;> simp at e2
  have i3 : m.fs = [] := by
    cases hi : m.fs with
    | nil => rfl
    | cons x r =>
      rw [hi, List.map_cons, rFs] at e3
      simp only [List.append_eq_nil_iff] at e3
      obtain ⟨_, e3, _⟩ := e3
      unfold rF rExp rHead at e3
      split at e3 <;> simp at e3
  rw [i1, i2, i3] at h
  cases h
/-- a module whose parts are small enough to be written -/
structure SzM (m : TMod) : Prop where
  sm : SmM m
  rg : RgM m
  sz : szM m ≤ 1048576
theorem rM_bd {m : TMod} (h : szM m ≤ 1048576) (t : Bool) : (rM litP qtP m t).length ≤ 140737488355328 := by
  have h1 := len_m lit_len qt_len m t
  have h2 : 65 * szM m * (szM m + 1) ≤ 65 * 1048576 * (1048576 + 1) := Nat.mul_le_mul (by omega) (by omega)
  omega
section
variable {X : Given}
theorem wr_run (hP : LibP X) {m : TMod} (hr : rightM m = true) (hs : SzM m) (t : Bool) : WrRun X m t (rM litP qtP m t) (upM m) := by
  have hm := mod_is lit_facts qt_facts hr t
  have hl := rM_bd hs.sz t
  have hu := upM_le m
  have hsz := hs.sz
  have hB : Bd (wM litP qtP m (pst0 t)) := by
    show Bd (wM litP qtP m ⟨[], t, 0, 0, 0, 0⟩)
    rw [hm]; exact ⟨hl, by show upM m ≤ _; omega⟩
  have hw := module_w hP m hr hs.sm hs.rg (by omega) t hB
  have hm' : wM litP qtP m (pst0 t) = ⟨rM litP qtP m t, t, 0, 0, 0, upM m⟩ := hm
  rw [hm'] at hw
  refine ⟨by omega, ?_, ?_⟩
  · refine WP.leaf ?_
    exact ⟨rfl, by (repeat' (first | exact rfl | exact List.forall_mem_nil _ | (refine List.forall_mem_cons.2 ⟨?_, ?_⟩))), by (repeat' (first | exact rfl | exact List.forall_mem_nil _ | (refine List.forall_mem_cons.2 ⟨?_, ?_⟩)))⟩
  · cases he : mempty m with
    | true =>
      rw [he] at hw
      rw [rM_empty he t] at hw ⊢
      refine WP.use1 hw ?_
      refine WP.leaf ?_
      exact ⟨rfl, rfl, .nilp, .d (.nil 1), vB t, vC 0, vI 0, vI 0, rfl, .inl ⟨rfl, rfl⟩⟩
    | false =>
      rw [he] at hw
      refine WP.use1 hw ?_
      refine WP.leaf ?_
      exact ⟨rfl, rfl, .box 9 0, .own (9, 1) 1 ((rM litP qtP m t).map byteD), vB t, vC 0, vI 0, vI 0, rfl, .inr ⟨_, rfl, rM_full he t⟩⟩
/-- print.written, given -/
def WrOK (X : Given) : Prop := ∀ (m : TMod) (t : Bool), rightM m = true → SzM m → Does X 44 [.agg (mD m), vB t] [] (.ret (.tuple [vS (mkB (rM litP qtP m t)), vI (upM m)]) [])
/-- a module's form, or why there is none -/
def formS (m : TMod) (t : Bool) : ByteArray := if rightM m = true then if 64 < upM m then .empty else if 65536 < (rM litP qtP m t).length then .empty else mkB (rM litP qtP m t) else .empty
def formN (m : TMod) (t : Bool) : Int := if rightM m = true then if 64 < upM m then 141 else if 65536 < (rM litP qtP m t).length then 3 else 0 else 5
def levN (m : TMod) : Int := if rightM m = true then upM m else 0
theorem form_does (hL : LibX X) (hW : WrOK X) {m : TMod} (hs : SzM m) (t : Bool) : Does X 42 [.agg (mD m), vB t] [] (.ret (.tuple [vS (formS m t), vI (formN m t)]) []) := by
  unfold formS formN
  cases hr : rightM m with
  | false =>
    refine DoesQ.eq (DoesQ.of Tryz.func42 (by kernel_rfl) ?_)
    refine WP.use1 (right_mod hL m hs.sm) ?_
    rw [hr]
    refine WP.iteT rfl ?_
    exact WP.leaf rfl
  | true =>
    rw [if_pos rfl, if_pos rfl]
    refine DoesQ.eq (DoesQ.of Tryz.func42 (by kernel_rfl) ?_)
    refine WP.use1 (right_mod hL m hs.sm) ?_
    rw [hr]
    refine WP.iteF rfl ?_
    refine WP.use1 (hW m t hr hs) ?_
    by_cases h1 : 64 < upM m
    · rw [if_pos h1, if_pos h1]
      refine WP.iteT (decide_eq_true h1) ?_
      exact WP.leaf rfl
    · rw [if_neg h1, if_neg h1]
      refine WP.iteF (decide_eq_false h1) ?_
      have hsz : ((mkB (rM litP qtP m t)).size : Int) = (rM litP qtP m t).length := by rw [← L_length, L_mkB]
      by_cases h2 : 65536 < (rM litP qtP m t).length
      · rw [if_pos h2, if_pos h2]
        refine WP.iteT (decide_eq_true (by rw [hsz]; omega)) ?_
        exact WP.leaf rfl
      · rw [if_neg h2, if_neg h2]
        refine WP.iteF (decide_eq_false (by rw [hsz]; omega)) ?_
        exact WP.leaf rfl
theorem pmodule_does (hL : LibX X) (hW : WrOK X) {m : TMod} (hs : SzM m) : Does X 16 [.agg (mD m)] [] (.ret (.tuple [vS (formS m false), vI (formN m false)]) []) := by
  refine DoesQ.eq (DoesQ.of Tryz.func16 (by kernel_rfl) ?_)
  refine WP.use1 (form_does hL hW hs false) ?_
  exact WP.leaf rfl
theorem ptight_does (hL : LibX X) (hW : WrOK X) {m : TMod} (hs : SzM m) : Does X 18 [.agg (mD m)] [] (.ret (.tuple [vS (formS m true), vI (formN m true)]) []) := by
  refine DoesQ.eq (DoesQ.of Tryz.func18 (by kernel_rfl) ?_)
  refine WP.use1 (form_does hL hW hs true) ?_
  exact WP.leaf rfl
theorem plevels_does (hL : LibX X) (hW : WrOK X) {m : TMod} (hs : SzM m) : Does X 20 [.agg (mD m)] [] (.ret (vI (levN m)) []) := by
  unfold levN
  cases hr : rightM m with
  | false =>
    refine DoesQ.eq (DoesQ.of Tryz.func20 (by kernel_rfl) ?_)
    refine WP.use1 (right_mod hL m hs.sm) ?_
    rw [hr]
    refine WP.iteT rfl ?_
    exact WP.leaf rfl
  | true =>
    rw [if_pos rfl]
    refine DoesQ.eq (DoesQ.of Tryz.func20 (by kernel_rfl) ?_)
    refine WP.use1 (right_mod hL m hs.sm) ?_
    rw [hr]
    refine WP.iteF rfl ?_
    refine WP.use1 (hW m true hr hs) ?_
    exact WP.leaf rfl
end
theorem xw_wr : WrOK XW := fun m t hr hs => Does.ext (.inr ⟨rfl, m, t, _, _, rfl, rfl, rfl, wr_run xp_p hr hs t⟩)
theorem oxw_lib : LibX (OrX XW) := OrX.lib xw_lib
theorem oxw_p : LibP (OrX XW) := ⟨oxw_lib, fun c0 rest h1 h2 => .inl (xw_p.cc c0 rest h1 h2), fun c0 buf rest bs h1 h2 => .inl (xw_p.str c0 buf rest bs h1 h2), fun v h1 h2 => .inl (xw_p.fmt v h1 h2), fun n h => .inl (xw_p.rep n h)⟩
theorem oxw_wr : WrOK (OrX XW) := fun m t hr hs => Does.ext (.inl (.inr ⟨rfl, m, t, _, _, rfl, rfl, rfl, wr_run xp_p hr hs t⟩))
end Go.Proofs.YtaddhpeainliiaaGreatDoor.Id
/-! ## OpenTwo -/
namespace Go.Proofs.YtaddhpeainliiaaGreatDoor.Id
open Go Go.ChangeShapes Go.WideShapes
set_option linter.unusedVariables false
set_option linter.unusedSimpArgs false
structure Two where
  a : TMod
  b : TMod
  e : TExpr
  f : TExpr
abbrev twoD (t : Two) : List D := mD t.a ++ (mD t.b ++ (eD t.e ++ eD t.f))
section
variable {H : Type} {enc : TypeId × Value → H} {w : World}
theorem trod_mod3 (n : Nat) (cs : List Value) (x : DataW H × List MemPlace) (h : TR enc w n 26 cs = some x) (hb : Rows.uptoBulk x.1 ≤ 1048576) : ∃ m : TMod, RepDs (seen w).h (mD m) cs ∧ SzM m := by
  obtain ⟨m, h1, ⟨⟨h2, h3⟩, h4⟩, h5⟩ := trod_mod2 n cs x h hb
  exact ⟨m, h1, h2, h4, by omega⟩
theorem trod_expr3 (n : Nat) (cs : List Value) (x : DataW H × List MemPlace) (h : TR enc w n 34 cs = some x) (hb : Rows.uptoBulk x.1 ≤ 1048576) : ∃ e : TExpr, RepDs (seen w).h (dsOf e) cs ∧ (smE e ∧ rgE e ∧ szE e ≤ 1048576) := by
  obtain ⟨e, h1, ⟨h2, h3⟩, h4⟩ := trod_expr2 n cs x h hb
  exact ⟨e, h1, h2, h3, by omega⟩
set_option maxRecDepth 100000 in
theorem trod_two (n : Nat) (cs : List Value) (x : DataW H × List MemPlace) (h : TR enc w n 36 cs = some x) (hb : Rows.uptoBulk x.1 ≤ 1048576) : ∃ t : Two, RepDs (seen w).h (twoD t) cs ∧ (SmM t.a ∧ smE t.e ∧ smE t.f) := by
  obtain ⟨xs, n', rfl, rfl, hl, hx, hf⟩ := DataW.trod_struct Tryz.underlying36 h
  have hl4 : cs.length = 26 := by rw [hl]; kernel_rfl
  have hx4 : xs.length = 4 := hx
  have b0 := bulk_part (xs := xs) (i := 0) (by omega)
  have b1 := bulk_part (xs := xs) (i := 1) (by omega)
  have b2 := bulk_part (xs := xs) (i := 2) (by omega)
  have b3 := bulk_part (xs := xs) (i := 3) (by omega)
  simp only at hb
  obtain ⟨m0, r0, s0⟩ := trod_mod _ _ _ ((hf 0 _ rfl).trans (List.getElem?_eq_getElem (by omega))) (by omega)
  obtain ⟨m1, r1, s1⟩ := trod_mod _ _ _ ((hf 1 _ rfl).trans (List.getElem?_eq_getElem (by omega))) (by omega)
  obtain ⟨e2, r2, s2⟩ := trod_expr _ _ _ ((hf 2 _ rfl).trans (List.getElem?_eq_getElem (by omega))) (by omega)
  obtain ⟨e3, r3, s3⟩ := trod_expr _ _ _ ((hf 3 _ rfl).trans (List.getElem?_eq_getElem (by omega))) (by omega)
  have hm : Tryz.prog.cellsOf 26 = 3 := by kernel_rfl
  have he : Tryz.prog.cellsOf 34 = 10 := by kernel_rfl
  have r0' : RepDs (seen w).h (mD m0) ((cs.drop 0).take (Tryz.prog.cellsOf 26)) := r0
  have r1' : RepDs (seen w).h (mD m1) ((cs.drop 3).take (Tryz.prog.cellsOf 26)) := r1
  have r2' : RepDs (seen w).h (dsOf e2) ((cs.drop 6).take (Tryz.prog.cellsOf 34)) := r2
  have r3' : RepDs (seen w).h (dsOf e3) ((cs.drop 16).take (Tryz.prog.cellsOf 34)) := r3
  rw [hm] at r0' r1'
  rw [he, dsOf_eq] at r2' r3'
  refine ⟨⟨m0, m1, e2, e3⟩, ?_, s0.1, s2, s3⟩
  have hj := r0'.app (r1'.app (r2'.app r3'))
  have e1 : (cs.drop 0).take 3 ++ ((cs.drop 3).take 3 ++ ((cs.drop 6).take 10 ++ (cs.drop 16).take 10)) = cs := by
    have a1 : (cs.drop 16).take 10 = cs.drop 16 := List.take_of_length_le (by rw [List.length_drop]; omega)
    have a2 : (cs.drop 6).take 10 ++ cs.drop 16 = cs.drop 6 := by
      have := List.take_append_drop 10 (cs.drop 6)
      rwa [List.drop_drop] at this
    have a3 : (cs.drop 3).take 3 ++ cs.drop 6 = cs.drop 3 := by
      have := List.take_append_drop 3 (cs.drop 3)
      rwa [List.drop_drop] at this
    have a4 : (cs.drop 0).take 3 ++ cs.drop 3 = cs := by rw [List.drop_zero]; exact List.take_append_drop 3 cs
    rw [a1, a2, a3, a4]
  rw [e1] at hj
  exact hj
end
end Go.Proofs.YtaddhpeainliiaaGreatDoor.Id
/-! ## PrU -/
namespace Go.Proofs.YtaddhpeainliiaaGreatDoor.Id
open Go
set_option linter.unusedVariables false
set_option linter.unusedSimpArgs false
set_option maxRecDepth 100000
theorem lit_size (a : Array UInt8) : (⟨a⟩ : ByteArray).size = a.size := rfl
theorem mkB_size (l : List UInt8) : (mkB l).size = l.length := by rw [← L_length, L_mkB]
theorem lit_L (a : Array UInt8) : L ⟨a⟩ = a.toList := rfl
def rbN (op : Int) : Int :=
  if op = 1 then 1 else if op = 2 then 2 else if op = 3 ∨ op = 4 ∨ op = 5 ∨ op = 6 ∨ op = 7 ∨ op = 8 then 3
  else if op = 9 ∨ op = 10 ∨ op = 11 then 4 else 5
theorem rbN_eq {op : Int} (h0 : 1 ≤ op) (h : op ≤ 14) : rbN op = sgnN op := by
  unfold rbN sgnN
  repeat' split
  all_goals omega
section
variable {X : Given}
set_option maxHeartbeats 4000000 in
theorem rbinds_does (op : Int) : Does X 112 [vI op] [] (.ret (vI (rbN op)) []) := by
  refine DoesQ.eq (DoesQ.of Tryz.func112 (by kernel_rfl) ?_)
  repeat' first | refine WP.dec (fun h => ?_) (fun h => ?_) | refine WP.leaf ?_
  all_goals
    refine congrArg (fun z => Out.ret (vI z) []) ?_
    unfold rbN
    simp_all
set_option maxHeartbeats 4000000 in
theorem rsign_does (op : Int) : Does X 80 [vI op] [] (.ret (vS (mkB (sgnT op))) []) := by
  refine DoesQ.eq (DoesQ.of Tryz.func80 (by kernel_rfl) ?_)
  repeat' first | refine WP.dec (fun h => ?_) (fun h => ?_) | refine WP.leaf ?_
  all_goals
    refine congrArg (fun z => Out.ret (vS (mkB z)) []) (a₁ := _) (a₂ := sgnT op) ?_
    unfold sgnT
    simp_all
theorem rname_does (of nm : ByteArray) (h1 : of.size ≤ 1099511627776) (h2 : nm.size ≤ 1099511627776) : Does X 79 [vS of, vS nm] [] (.ret (vS (mkB (rName (L of) (L nm)))) []) := by
  refine DoesQ.eq (DoesQ.of Tryz.func79 (by kernel_rfl) ?_)
  unfold rName
  by_cases h : of = .empty
  · have e1 : L of = [] := by rw [h]; rfl
    rw [if_pos e1]
    refine WP.iteT (by rw [bytes_empty, decide_eq_true h]) ?_
    exact WP.leaf (by rw [mkB_L])
  · have e1 : ¬ L of = [] := fun e => h (by rw [← mkB_L of, e]; rfl)
    rw [if_neg e1]
    refine WP.iteF (by rw [bytes_empty, decide_eq_false h]) ?_
    refine WP.asrt (by ((try simp only [ByteArray.size_append, lit_size, mkB_size, List.size_toArray, List.length_append, List.length_cons, List.length_nil] at *) <;> omega)) ?_
    refine WP.asrt (by ((try simp only [ByteArray.size_append, lit_size, mkB_size, List.size_toArray, List.length_append, List.length_cons, List.length_nil] at *) <;> omega)) ?_
    exact WP.leaf (by (refine congrArg (fun s => Out.ret (vS s) []) (L_inj ?_); simp only [L_append, L_mkB, lit_L]; (try simp)))
set_option maxHeartbeats 4000000 in
theorem rbr_does (e x : TExpr) (i : Int) (hi : i = 0 ∨ i = 1) (hx : (dsAll e.kids)[i.toNat]? = some (eD x)) (he : e.k = 4 ∨ e.k = 5 ∧ 1 ≤ e.op ∧ e.op ≤ 14) (hxo : x.k = 5 → 1 ≤ x.op ∧ x.op ≤ 14) : Does X 68 [.agg (eD e), vI i] [] (.ret (vB (inBr e.k e.op x.k x.op (decide (i = 1)))) []) := by
  refine DoesQ.eq (DoesQ.of Tryz.func68 (by kernel_rfl) ?_)
  refine WP.idx _ (by omega) hx ?_
  have d1 := rbinds_does (X := X) x.op
  have d2 := rbinds_does (X := X) e.op
  by_cases h5 : x.k = 5
  · obtain ⟨o1, o2⟩ := hxo h5
    rw [rbN_eq o1 o2] at d1
    refine WP.iteF (by simp; exact h5) ?_
    rcases he with h4 | ⟨h4, p1, p2⟩
    · refine WP.iteT (decide_eq_true h4) ?_
      refine WP.asrt (by kernel_rfl) ?_
      repeat first | refine WP.iteT (decide_eq_true h4) ?_
      try refine WP.asrt (by kernel_rfl) ?_
      refine WP.leaf (congrArg (fun b => Out.ret (vB b) []) ?_)
      unfold inBr
      simp [h4, h5]
    · rw [rbN_eq p1 p2] at d2
      have n4 : ¬ e.k = 4 := by omega
      refine WP.iteF (decide_eq_false n4) ?_
      rcases hi with rfl | rfl
      · refine WP.iteF rfl ?_
        refine WP.asrt (by kernel_rfl) ?_
        refine WP.use1 d1 ?_
        refine WP.use1 d2 ?_
        by_cases c1 : sgnN x.op < sgnN e.op
        · repeat first | refine WP.iteT (decide_eq_true c1) ?_
          try refine WP.asrt (by kernel_rfl) ?_
          refine WP.leaf (congrArg (fun b => Out.ret (vB b) []) ?_)
          unfold inBr
          simp [h4, h5, c1]
        · repeat first | refine WP.iteF (decide_eq_false c1) ?_
          refine WP.use1 d2 ?_
          repeat first | refine WP.iteF (decide_eq_false c1) ?_
          by_cases c2 : sgnN e.op = 3
          · repeat first | refine WP.iteT (decide_eq_true c2) ?_ | refine WP.iteF (decide_eq_false c1) ?_
            refine WP.use1 d1 ?_
            repeat first | refine WP.iteT (decide_eq_true c2) ?_ | refine WP.iteF (decide_eq_false c1) ?_
            try refine WP.asrt (by kernel_rfl) ?_
            refine WP.leaf (congrArg (fun b => Out.ret (vB b) []) ?_)
            unfold inBr
            simp [h4, h5, c1, c2]; try omega
          · repeat first | refine WP.iteF (decide_eq_false c2) ?_ | refine WP.iteF (decide_eq_false c1) ?_
            try refine WP.asrt (by kernel_rfl) ?_
            refine WP.leaf (congrArg (fun b => Out.ret (vB b) []) ?_)
            unfold inBr
            simp [h4, h5, c1, c2]; try omega
      · refine WP.iteT rfl ?_
        refine WP.asrt (by kernel_rfl) ?_
        repeat first | refine WP.iteF (decide_eq_false n4) ?_
        refine WP.use1 d1 ?_
        repeat first | refine WP.iteF (decide_eq_false n4) ?_
        refine WP.use1 d2 ?_
        repeat first | refine WP.iteF (decide_eq_false n4) ?_
        try refine WP.asrt (by kernel_rfl) ?_
        refine WP.leaf (congrArg (fun b => Out.ret (vB b) []) ?_)
        unfold inBr
        simp [h4, h5]
  · refine WP.iteT (by simp; exact h5) ?_
    refine WP.leaf (congrArg (fun b => Out.ret (vB b) []) ?_)
    unfold inBr
    simp [h5]
end
end Go.Proofs.YtaddhpeainliiaaGreatDoor.Id
/-! ## PrUb -/
namespace Go.Proofs.YtaddhpeainliiaaGreatDoor.Id
open Go
set_option linter.unusedVariables false
set_option linter.unusedSimpArgs false
set_option maxRecDepth 100000
theorem mkS (l : List UInt8) : (mkB l).size = l.length := mkB_size l
theorem l40 : (⟨#[40]⟩ : ByteArray).size = 1 := rfl
theorem l41 : (⟨#[41]⟩ : ByteArray).size = 1 := rfl
theorem l44 : (⟨#[44]⟩ : ByteArray).size = 1 := rfl
section
variable {X : Given}
/-- an expression's text by the document -/
def RExprOK (X : Given) (e : TExpr) : Prop := ∀ t : Bool, Does X 54 [.agg (eD e), vS (mkB (gp t))] [] (.ret (vS (mkB (rE litP e t))) [])
theorem rE_len {e : TExpr} (h : szE e ≤ 1073741824) (t : Bool) : (rE litP e t).length ≤ 68719476736 := by
  have := len_e lit_len e t
  omega
set_option maxHeartbeats 2000000 in
theorem rkid_w (e x : TExpr) (i : Int) (hi : i = 0 ∨ i = 1) (hx : (dsAll e.kids)[i.toNat]? = some (eD x)) (he : e.k = 4 ∨ e.k = 5 ∧ 1 ≤ e.op ∧ e.op ≤ 14) (hxo : x.k = 5 → 1 ≤ x.op ∧ x.op ≤ 14) (hE : RExprOK X x) (hz : szE x ≤ 1073741824) (t : Bool) :
    Does X 81 [.agg (eD e), vI i, vS (mkB (gp t))] [] (.ret (vS (mkB (rIn (inBr e.k e.op x.k x.op (decide (i = 1))) (rE litP x t)))) []) := by
  have hl := rE_len hz t
  have hb := rbr_does (X := X) e x i hi hx he hxo
  refine DoesQ.eq (DoesQ.of Tryz.func81 (by kernel_rfl) ?_)
  refine WP.idx _ (by omega) hx ?_
  refine WP.use1 (hE t) ?_
  refine WP.use1 hb ?_
  cases inBr e.k e.op x.k x.op (decide (i = 1)) with
  | true =>
    refine WP.iteT rfl ?_
    refine WP.asrt (by ((try simp only [ByteArray.size_append, lit_size, mkB_size, List.size_toArray, List.length_append, List.length_cons, List.length_nil] at *) <;> omega)) ?_
    refine WP.asrt (by ((try simp only [ByteArray.size_append, lit_size, mkB_size, List.size_toArray, List.length_append, List.length_cons, List.length_nil] at *) <;> omega)) ?_
    exact WP.leaf (by (refine congrArg (fun s => Out.ret (vS s) []) (L_inj ?_); simp only [L_append, L_mkB, lit_L]; (try simp)); rfl)
  | false =>
    refine WP.iteF rfl ?_
    exact WP.leaf rfl
theorem kids_op {x : TExpr} (h : rightE x = true) (h5 : x.k = 5) : 1 ≤ x.op ∧ x.op ≤ 14 := by
  obtain ⟨k, a, of, nm, v, op, kids⟩ := x
  have h5 : k = 5 := h5
  subst h5
  rw [rightE, Bool.and_eq_true] at h
  have h := h.2
  unfold rightN at h
  rw [if_neg (by decide), if_neg (by decide), if_neg (by decide), if_neg (by decide), if_pos rfl] at h
  simp only [Bool.and_eq_true, decide_eq_true_eq] at h
  exact ⟨h.2.2.1, h.2.2.2.1⟩
theorem rSeq_snd (t : Bool) (s : Bool → List UInt8) (r : List (Bool → List UInt8)) : rSeq (s :: r) false t = 44 :: (gp t ++ (s t ++ rSeq r false t)) := by simp [rSeq]
set_option maxHeartbeats 4000000 in
theorem rargs_w (e : TExpr) (hk : e.kids.length ≤ 1000000000) (hE : ∀ x ∈ e.kids, RExprOK X x) (t : Bool) (F : List UInt8) (hF : F.length ≤ 68719476736) (K : Ex → St → Id.T Out) (Q : Out → Prop)
    (hK : ∀ s, L s = F → WP X (K (.exit 1) ⟨[(2, .box 2 0), (5, vS s)], [(2, eV e)]⟩) Q) :
    ∀ (r p : List TExpr) (s : ByteArray), e.kids = p ++ r → L s ++ rSeq (rEs litP r) (decide (p.length = 0)) t = F → ∀ σ : St, getT σ.t 1 = vS (mkB (gp t)) → getT σ.t 2 = .box 2 0 → getT σ.t 5 = vS s → getT σ.t 6 = vI p.length → getB σ.b 2 = some (eV e) → WP X (.loop (lp Tryz.f54 0) σ K) Q
  | r, p, s, h, hs, σ, g1, g2, g5, g6, gb => by
    refine WP.round ⟨[(1, vS (mkB (gp t))), (2, .box 2 0), (5, vS s), (6, vI p.length)], [(2, eV e)]⟩ ⟨⟨.inl g1.symm, .inl g2.symm, .inl g5.symm, .inl g6.symm, trivial⟩, ⟨WkB.box gb, trivial⟩⟩ ?_
    have hlen : e.kids.length = p.length + r.length := by rw [h]; simp
    have hsz : s.size + (rSeq (rEs litP r) (decide (p.length = 0)) t).length ≤ 68719476736 := by rw [← L_length, ← List.length_append, hs]; exact hF
    have hgp := gp_len t
    cases r with
    | nil =>
      refine WP.iteF (by rw [dsAll_len]; simp at hlen; simp; omega) ?_
      rw [rEs, rSeq, List.append_nil] at hs
      exact WP.leaf ⟨⟨[(2, .box 2 0), (5, vS s)], [(2, eV e)]⟩, ⟨⟨.inl rfl, .inl rfl, trivial⟩, ⟨WkB.box rfl, trivial⟩⟩, hK s hs⟩
    | cons y r =>
      simp only [List.length_cons] at hlen
      have hy := hE y (by rw [h]; simp) t
      have m1 := mkS (rE litP y t)
      have m2 := mkS (gp t)
      have m3 := l44
      have hnext : ∀ (s1 : ByteArray) (σ : St), L s1 ++ rSeq (rEs litP r) false t = F → getT σ.t 1 = vS (mkB (gp t)) → getT σ.t 2 = .box 2 0 → getT σ.t 5 = vS s1 → getT σ.t 6 = vI (IntKind.i64.wrap ((p.length : Int) + 1)) → getB σ.b 2 = some (eV e) → WP X (.loop (lp Tryz.f54 0) σ K) Q := fun s1 σ hs1 g1 g2 g5 g6 gb => by
        refine rargs_w e hk hE t F hF K Q hK r (p ++ [y]) s1 (by rw [h]; simp) ?_ σ g1 g2 g5 ?_ gb
        · rw [decide_eq_false (by simp)]; exact hs1
        · rw [g6, wrapI (by omega) (by omega)]; simp
      refine WP.iteT (by rw [dsAll_len]; simp; omega) ?_
      by_cases hp : p.length = 0
      · rw [decide_eq_true hp] at hs hsz
        rw [rEs, rSeq, if_pos rfl, List.nil_append] at hs hsz
        rw [List.length_append] at hsz
        refine WP.iteF (decide_eq_false (by omega)) ?_
        refine WP.idx _ (by omega) (dsAll_get h) ?_
        refine WP.use1 hy ?_
        refine WP.asrt (show s.size + (mkB (rE litP y t)).size ≤ 9223372036854775807 by ((try simp only [ByteArray.size_append]) <;> omega)) ?_
        exact WP.leaf (hnext (s ++ mkB (rE litP y t)) _ (by rw [L_append, L_mkB, List.append_assoc]; exact hs) rfl rfl rfl rfl rfl)
      · rw [decide_eq_false hp] at hs hsz
        rw [rEs, rSeq_snd] at hs hsz
        simp only [List.length_append, List.length_cons] at hsz
        refine WP.iteT (decide_eq_true (by omega)) ?_
        refine WP.asrt (show (⟨#[44]⟩ : ByteArray).size + (mkB (gp t)).size ≤ 9223372036854775807 by ((try simp only [ByteArray.size_append]) <;> omega)) ?_
        refine WP.asrt (show s.size + ((⟨#[44]⟩ : ByteArray) ++ mkB (gp t)).size ≤ 9223372036854775807 by ((try simp only [ByteArray.size_append]) <;> omega)) ?_
        refine WP.idx _ (by omega) (dsAll_get h) ?_
        refine WP.use1 hy ?_
        refine WP.asrt (show (s ++ ((⟨#[44]⟩ : ByteArray) ++ mkB (gp t))).size + (mkB (rE litP y t)).size ≤ 9223372036854775807 by ((try simp only [ByteArray.size_append]) <;> omega)) ?_
        exact WP.leaf (hnext (s ++ ((⟨#[44]⟩ : ByteArray) ++ mkB (gp t)) ++ mkB (rE litP y t)) _ (by simp only [L_append, L_mkB, lit_L]; simpa using hs) rfl rfl rfl rfl rfl)
theorem szEs_mem {l : List TExpr} {x : TExpr} (h : x ∈ l) : szE x ≤ szEs l := by rw [szEs_map]; exact sumN_mem szE h
set_option maxHeartbeats 4000000 in
theorem rexpr_w (hP : LibP X) : ∀ (n : Nat) (e : TExpr), SizeOf.sizeOf e < n → rightE e = true → smE e → rgE e → szE e ≤ 1073741824 → RExprOK X e
  | 0, e, h, _, _, _, _ => absurd h (Nat.not_lt_zero _)
  | n + 1, .mk k a of nm v op kids, hn, hr, hs, hv, hz => fun t => by
    have hr0 := hr
    have hlF := rE_len hz t
    have hgp := gp_len t
    have hop := sgnT_len op
    rw [rightE, Bool.and_eq_true] at hr
    rw [smE] at hs
    rw [rgE] at hv
    rw [szE] at hz
    have hkz : ∀ x ∈ kids, szE x ≤ 1073741824 := fun x hx => by have := szEs_mem hx; omega
    have hkid : ∀ x ∈ kids, RExprOK X x := fun x hx => rexpr_w hP n x (by have := List.sizeOf_lt_of_mem hx; simp at hn; omega) (rightEs_mem hr.1 hx) (smEs_mem hs.2.2.2 hx) (rgEs_mem hv.2 hx) (hkz x hx)
    have hko : ∀ x ∈ kids, x.k = 5 → 1 ≤ x.op ∧ x.op ≤ 14 := fun x hx h => kids_op (rightEs_mem hr.1 hx) h
    obtain ⟨hrk, hr⟩ := hr
    have hnm := rname_does (X := X) of nm (by omega) (by omega)
    rw [rE] at hlF ⊢
    unfold rightN at hr
    unfold rNode at hlF ⊢
    by_cases k1 : k = 1
    · subst k1
      rw [if_pos rfl] at hr ⊢
      simp only [Bool.and_eq_true] at hr
      refine DoesQ.eq (DoesQ.of Tryz.func54 (by kernel_rfl) ?_)
      refine WP.iteT rfl ?_
      refine WP.use1 (rlit_does hP v hr.1 hv.1) ?_
      exact WP.leaf rfl
    by_cases k2 : k = 2
    · subst k2
      rw [if_neg (by decide), if_pos rfl]
      refine DoesQ.eq (DoesQ.of Tryz.func54 (by kernel_rfl) ?_)
      refine WP.iteF rfl ?_
      refine WP.iteT rfl ?_
      refine WP.use1 hnm ?_
      exact WP.leaf rfl
    by_cases k3 : k = 3
    · subst k3
      rw [if_neg (by decide), if_neg (by decide), if_pos rfl] at hlF ⊢
      simp only [List.length_append, List.length_cons, List.length_nil] at hlF
      refine DoesQ.eq (DoesQ.of Tryz.func54 (by kernel_rfl) ?_)
      refine WP.iteF rfl ?_
      refine WP.iteF rfl ?_
      refine WP.iteT rfl ?_
      refine rargs_w (.mk 3 a of nm v op kids) hs.2.2.1 hkid t (rSeq (rEs litP kids) true t) (by omega) _ _ (fun s hs2 => ?_) kids [] .empty rfl rfl _ rfl rfl rfl rfl rfl
      have hsz : s.size = (rSeq (rEs litP kids) true t).length := by rw [← L_length, hs2]
      have m1 := mkS (rName (L of) (L nm))
      have m2 := l40
      have m3 := l41
      refine WP.use1 hnm ?_
      refine WP.asrt (show (mkB (rName (L of) (L nm))).size + (⟨#[40]⟩ : ByteArray).size ≤ 9223372036854775807 by ((try simp only [ByteArray.size_append]) <;> omega)) ?_
      refine WP.asrt (show (mkB (rName (L of) (L nm)) ++ (⟨#[40]⟩ : ByteArray)).size + s.size ≤ 9223372036854775807 by ((try simp only [ByteArray.size_append]) <;> omega)) ?_
      refine WP.asrt (show (mkB (rName (L of) (L nm)) ++ (⟨#[40]⟩ : ByteArray) ++ s).size + (⟨#[41]⟩ : ByteArray).size ≤ 9223372036854775807 by ((try simp only [ByteArray.size_append]) <;> omega)) ?_
      refine WP.leaf (congrArg (fun s => Out.ret (vS s) []) (L_inj ?_))
      simp only [L_append, L_mkB, lit_L, hs2]
      simp
    by_cases k4 : k = 4
    · subst k4
      rw [if_neg (by decide), if_neg (by decide), if_neg (by decide), if_pos rfl] at hr hlF ⊢
      simp only [Bool.and_eq_true, decide_eq_true_eq] at hr
      obtain ⟨_, _, _, _, h1⟩ := hr
      match kids, h1, hkid, hkz, hko, hlF with
      | [x], _, hkid, hkz, hko, hlF =>
        have d := rkid_w (X := X) (.mk 4 a of nm v op [x]) x 0 (.inl rfl) (by show (dsAll [x])[Int.toNat 0]? = some (eD x); rw [dsAll1]; rfl) (.inl rfl) (hko x (by simp)) (hkid x (by simp)) (hkz x (by simp)) t
        rw [rEs, rEs] at hlF ⊢
        have hlF : (sgnT op ++ rIn (inBr 4 op x.k x.op false) (rE litP x t)).length ≤ 68719476736 := hlF
        rw [List.length_append] at hlF
        have m1 := mkS (sgnT op)
        have m2 := mkS (rIn (inBr 4 op x.k x.op false) (rE litP x t))
        refine DoesQ.eq (DoesQ.of Tryz.func54 (by kernel_rfl) ?_)
        refine WP.iteF rfl ?_
        refine WP.iteF rfl ?_
        refine WP.iteF rfl ?_
        refine WP.iteT rfl ?_
        refine WP.asrt (by kernel_rfl) ?_
        refine WP.use1 (rsign_does op) ?_
        refine WP.use1 d ?_
        refine WP.asrt (show (mkB (sgnT op)).size + (mkB (rIn (inBr 4 op x.k x.op false) (rE litP x t))).size ≤ 9223372036854775807 by ((try simp only [ByteArray.size_append]) <;> omega)) ?_
        refine WP.asrt (by kernel_rfl) ?_
        refine WP.leaf (congrArg (fun s => Out.ret (vS s) []) (L_inj ?_))
        simp only [L_append, L_mkB, lit_L]
        rfl
    by_cases k5 : k = 5
    · subst k5
      rw [if_neg (by decide), if_neg (by decide), if_neg (by decide), if_neg (by decide)] at hr hlF ⊢
      rw [if_pos rfl] at hr
      simp only [Bool.and_eq_true, decide_eq_true_eq] at hr
      obtain ⟨_, _, o1, o2, h1⟩ := hr
      match kids, h1, hkid, hkz, hko, hlF with
      | [x, y], _, hkid, hkz, hko, hlF =>
        have dx := rkid_w (X := X) (.mk 5 a of nm v op [x, y]) x 0 (.inl rfl) (by show (dsAll [x, y])[Int.toNat 0]? = some (eD x); rw [dsAll2]; rfl) (.inr ⟨rfl, o1, o2⟩) (hko x (by simp)) (hkid x (by simp)) (hkz x (by simp)) t
        have dy := rkid_w (X := X) (.mk 5 a of nm v op [x, y]) y 1 (.inr rfl) (by show (dsAll [x, y])[Int.toNat 1]? = some (eD y); rw [dsAll2]; rfl) (.inr ⟨rfl, o1, o2⟩) (hko y (by simp)) (hkid y (by simp)) (hkz y (by simp)) t
        rw [rEs, rEs, rEs] at hlF ⊢
        have hlF : (rIn (inBr 5 op x.k x.op false) (rE litP x t) ++ (gp t ++ (sgnT op ++ (gp t ++ rIn (inBr 5 op y.k y.op true) (rE litP y t))))).length ≤ 68719476736 := hlF
        simp only [List.length_append] at hlF
        obtain ⟨A, hA⟩ : ∃ A, A = rIn (inBr 5 op x.k x.op false) (rE litP x t) := ⟨_, rfl⟩
        obtain ⟨B, hB⟩ : ∃ B, B = rIn (inBr 5 op y.k y.op true) (rE litP y t) := ⟨_, rfl⟩
        have dx : Does X 81 [.agg (eD (.mk 5 a of nm v op [x, y])), vI 0, vS (mkB (gp t))] [] (.ret (vS (mkB A)) []) := by rw [hA]; exact dx
        have dy : Does X 81 [.agg (eD (.mk 5 a of nm v op [x, y])), vI 1, vS (mkB (gp t))] [] (.ret (vS (mkB B)) []) := by rw [hB]; exact dy
        rw [← hA, ← hB] at hlF
        have m1 := mkS A
        have m2 := mkS B
        have m3 := mkS (gp t)
        have m4 := mkS (sgnT op)
        show Does X _ _ _ (.ret (vS (mkB (rIn (inBr 5 op x.k x.op false) (rE litP x t) ++ (gp t ++ (sgnT op ++ (gp t ++ rIn (inBr 5 op y.k y.op true) (rE litP y t))))))) [])
        rw [← hA, ← hB]
        refine DoesQ.eq (DoesQ.of Tryz.func54 (by kernel_rfl) ?_)
        refine WP.iteF rfl ?_
        refine WP.iteF rfl ?_
        refine WP.iteF rfl ?_
        refine WP.iteF rfl ?_
        refine WP.asrt (by kernel_rfl) ?_
        refine WP.use1 dx ?_
        refine WP.asrt (show (mkB A).size + (mkB (gp t)).size ≤ 9223372036854775807 by ((try simp only [ByteArray.size_append]) <;> omega)) ?_
        refine WP.use1 (rsign_does op) ?_
        refine WP.asrt (show (mkB A ++ mkB (gp t)).size + (mkB (sgnT op)).size ≤ 9223372036854775807 by ((try simp only [ByteArray.size_append]) <;> omega)) ?_
        refine WP.asrt (show (mkB A ++ mkB (gp t) ++ mkB (sgnT op)).size + (mkB (gp t)).size ≤ 9223372036854775807 by ((try simp only [ByteArray.size_append]) <;> omega)) ?_
        refine WP.use1 dy ?_
        refine WP.asrt (show (mkB A ++ mkB (gp t) ++ mkB (sgnT op) ++ mkB (gp t)).size + (mkB B).size ≤ 9223372036854775807 by ((try simp only [ByteArray.size_append]) <;> omega)) ?_
        refine WP.asrt (by kernel_rfl) ?_
        refine WP.leaf (congrArg (fun s => Out.ret (vS s) []) (L_inj ?_))
        simp only [L_append, L_mkB, lit_L, List.append_assoc]
    rw [if_neg k1, if_neg k2, if_neg k3, if_neg k4, if_neg k5] at hr
    cases hr
theorem rexpr_ok (hP : LibP X) {e : TExpr} (hr : rightE e = true) (hs : smE e) (hv : rgE e) (hz : szE e ≤ 1073741824) : RExprOK X e := rexpr_w hP _ e (Nat.lt_succ_self _) hr hs hv hz
end
end Go.Proofs.YtaddhpeainliiaaGreatDoor.Id
