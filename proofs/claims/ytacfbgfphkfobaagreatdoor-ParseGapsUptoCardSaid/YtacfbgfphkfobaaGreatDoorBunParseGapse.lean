/- Texts of this repo, bundled: PaRefM, PaRefN, PaRefO, PaFuB, PaSameA, PaFuC, PaSpA, PaSpr, PaFil, PaSprW, PaLawS, PaLawP. -/
import Derived.Test.YtacfbgfphkfobaaGreatDoorBunParseGapsd
/-! ## PaRefM -/
namespace Go.Proofs.YtacfbgfphkfobaaGreatDoor.Id
open Go
set_option linter.unusedVariables false
set_option linter.unusedSimpArgs false
set_option maxRecDepth 100000
set_option maxHeartbeats 4000000
variable {X : Given}
abbrev m0c : List V := [.d (.nil 3), .d (.nil 13), .d (.nil 6)]
abbrev mOut (m : TMod) : List D := [.sl 3 (isD' m.is), .sl 13 (csD m.cs), .sl 6 (fsD m.fs)]
abbrev mEx (c : List V) (m : TMod) : St := ⟨[(0, .box base 0), (2, .box 2 0), (3, .box 3 0)], [(base, c), (2, m0c), (3, mcA 3 m)]⟩
theorem incls_loopR {β : Type} (F : List TIncl → Gr β) (E : REnv) (K : Ex → St → Id.T Out) (P : Rs β → Out → Prop)
    (hE : ∀ T t r l, RAt E T t r → runG (F l) (t :: r) ≠ .out → WP X (K (.exit 0) (mEx (rp E (T : Nat) (0 : Nat) 0 0) ⟨l, [], []⟩)) (P (runG (F l) (t :: r))))
    (hEB : ∀ l T lv q res, RB E T lv (q.c : Nat) (q.a : Nat) q → IsBad E res q → WP X (K (.exit 0) (mEx (rp E T lv (q.c : Nat) (q.a : Nat)) ⟨l, [], []⟩)) (P res)) :
    ∀ n l T ts, RS E T ts → n + l.length ≤ 1000000000 → runL ((pIncls n l).bind F) ts ≠ .out → ∀ σ : St, getT σ.t 0 = .box base 0 → getT σ.t 2 = .box 2 0 → getT σ.t 3 = .box 3 0 → getB σ.b base = some (rp E (T : Nat) (0 : Nat) 0 0) → getB σ.b 2 = some m0c → (∃ us, getB σ.b 3 = some us ∧ WkVs σ (mcA 3 ⟨l, [], []⟩) us) →
      WP X (.loop (lp Tryz.f31 0) σ K) (P (runL ((pIncls n l).bind F) ts)) := by
  have hbadend : ∀ (l : List TIncl) (T lv e w : Int) q res, RB E T lv e w q → IsBad E res q → ∀ σ : St, getT σ.t 0 = .box base 0 → getT σ.t 2 = .box 2 0 → getT σ.t 3 = .box 3 0 → getB σ.b base = some (rp E T lv e w) → getB σ.b 2 = some m0c → (∃ us, getB σ.b 3 = some us ∧ WkVs σ (mcA 3 ⟨l, [], []⟩) us) → WP X (.loop (lp Tryz.f31 0) σ K) (P res) := fun l T lv e w q res hb hr σ g0 g2 g3 gb gb2 gm => by
    refine WP.round (mEx (rp E T lv e w) ⟨l, [], []⟩) ⟨⟨.inl g0.symm, .inl g2.symm, .inl g3.symm, trivial⟩, ⟨WkB.box gb, WkB.box gb2, gm, trivial⟩⟩ ?_
    refine WP.use1 (is_bad hb kInclude) ?_
    refine WP.iteF rfl ?_
    exact WP.leaf ⟨mEx (rp E T lv (q.c : Nat) (q.a : Nat)) ⟨l, [], []⟩, ⟨⟨.inl rfl, .inl rfl, .inl rfl, trivial⟩, ⟨WkB.box rfl, WkB.box rfl, WkB.box rfl, trivial⟩⟩, hEB _ _ _ _ _ hb.die hr⟩
  intro n
  induction n with
  | zero =>
    intro l T ts hS hl hne σ g0 g2 g3 gb gb2 gm
    cases ts with
    | nil => exact hbadend l _ _ _ _ _ _ (RPend.bad hS (0 : Nat)) (RPend.isBad hS) σ g0 g2 g3 gb gb2 gm
    | cons t r => exact absurd rfl hne
  | succ n ih =>
    intro l T ts hS hl hne σ g0 g2 g3 gb gb2 gm
    cases ts with
    | nil => exact hbadend l _ _ _ _ _ _ (RPend.bad hS (0 : Nat)) (RPend.isBad hS) σ g0 g2 g3 gb gb2 gm
    | cons t r =>
      have hA : RAt E T t r := hS
      have e1 : runL ((pIncls (n + 1) l).bind F) (t :: r) = runG (match isT t kInclude with
        | true => pIncl.bind fun x => (pIncls n (l ++ [x])).bind F
        | false => F l) (t :: r) := by
        show runG ((match isT t kInclude with
          | true => pIncl.bind fun x => pIncls n (l ++ [x])
          | false => .ret l : Gr (List TIncl)).bind F) (t :: r) = _
        cases isT t kInclude with
        | true => simp only [gr_assoc]
        | false => rfl
      rw [e1] at hne ⊢
      refine WP.round (mEx (rp E (T : Nat) (0 : Nat) 0 0) ⟨l, [], []⟩) ⟨⟨.inl g0.symm, .inl g2.symm, .inl g3.symm, trivial⟩, ⟨WkB.box gb, WkB.box gb2, gm, trivial⟩⟩ ?_
      refine WP.use1 (is_ok hA _ kInclude) ?_
      have hw : ∀ (x : TIncl), V.own (3, 0) 3 (isD' l ++ [iD x]) = .own (3, 0) 3 (isD' (l ++ [x])) := fun x => by
        rw [show isD' (l ++ [x]) = isD' l ++ isD' [x] from List.map_append]; rfl
      cases h1 : isT t kInclude with
      | false =>
        rw [h1] at hne
        refine WP.iteF rfl ?_
        exact WP.leaf ⟨mEx (rp E (T : Nat) (0 : Nat) 0 0) ⟨l, [], []⟩, ⟨⟨.inl rfl, .inl rfl, .inl rfl, trivial⟩, ⟨WkB.box rfl, WkB.box rfl, WkB.box rfl, trivial⟩⟩, hE T t r l hA hne⟩
      | true =>
        rw [h1] at hne
        refine WP.iteT rfl ?_
        refine WP.asrt (by kernel_rfl) ?_
        refine Rf.useP (P := fun res => Round X _ K (P res)) incl_f hA hne ?_ ?_
        · intro x T t r hA hne
          refine WP.asrt (show ((isD' l).length + 1) * 40 ≤ 140737488355328 by simp only [List.length_map]; omega) ?_
          refine WP.asrt (by kernel_rfl) ?_
          refine WP.leaf ?_
          refine ih (l ++ [x]) T (t :: r) hA (by rw [List.length_append]; simp; omega) hne _ ?_ ?_ ?_ ?_ ?_ ?_
          · rfl
          · rfl
          · rfl
          · rfl
          · rfl
          · exact ⟨_, rfl, ⟨.inl (hw x).symm, .inl rfl, .inl rfl, trivial⟩⟩
        · intro x T lv e w q res hb hr
          refine WP.asrt (show ((isD' l).length + 1) * 40 ≤ 140737488355328 by simp only [List.length_map]; omega) ?_
          refine WP.asrt (by kernel_rfl) ?_
          refine WP.leaf ?_
          refine hbadend (l ++ [x]) T lv e w q res hb hr _ ?_ ?_ ?_ ?_ ?_ ?_
          · rfl
          · rfl
          · rfl
          · rfl
          · rfl
          · exact ⟨_, rfl, ⟨.inl (hw x).symm, .inl rfl, .inl rfl, trivial⟩⟩
theorem decls_badR (E : REnv) (K : Ex → St → Id.T Out) (P : Rs TMod → Out → Prop)
    (hEB : ∀ m T lv q res, RB E T lv (q.c : Nat) (q.a : Nat) q → IsBad E res q → WP X (K (.exit 2) (mEx (rp E T lv (q.c : Nat) (q.a : Nat)) m)) (P res)) :
    ∀ (m : TMod) (T lv e w : Int) q res, RB E T lv e w q → IsBad E res q → ∀ σ : St, getT σ.t 0 = .box base 0 → getT σ.t 2 = .box 2 0 → getT σ.t 3 = .box 3 0 → getB σ.b base = some (rp E T lv e w) → getB σ.b 2 = some m0c → getB σ.b 3 = some (mcA 3 m) → WP X (.loop (lp Tryz.f31 1) σ K) (P res) := by
    intro m T lv e w q res hb hr σ g0 g2 g3 gb gb2 gm
    refine WP.round (mEx (rp E T lv e w) m) ⟨⟨.inl g0.symm, .inl g2.symm, .inl g3.symm, trivial⟩, ⟨WkB.box gb, WkB.box gb2, WkB.box gm, trivial⟩⟩ ?_
    have hx : ∀ T lv, RB E T lv (q.c : Nat) (q.a : Nat) q → Round X (lp Tryz.f31 1) K (P res) (.exit 2, mEx (rp E T lv (q.c : Nat) (q.a : Nat)) m) := fun T lv hb => ⟨mEx (rp E T lv (q.c : Nat) (q.a : Nat)) m, ⟨⟨.inl rfl, .inl rfl, .inl rfl, trivial⟩, ⟨WkB.box rfl, WkB.box rfl, WkB.box rfl, trivial⟩⟩, hEB _ _ _ _ _ hb hr⟩
    rcases fine_b hb with ⟨hne, hf⟩ | ⟨rfl, rfl, hf⟩
    · have he : e = (q.c : Nat) ∧ w = (q.a : Nat) := by
        rcases hb with ⟨h1, h2, _⟩ | ⟨h1, _⟩
        · exact ⟨h1, h2⟩
        · exact absurd h1 hne
      obtain ⟨rfl, rfl⟩ := he
      refine WP.use1 hf ?_
      refine WP.iteF rfl ?_
      exact WP.leaf ⟨mEx (rp E T lv (q.c : Nat) (q.a : Nat)) m, ⟨⟨.inl rfl, .inl rfl, .inl rfl, trivial⟩, ⟨WkB.box rfl, WkB.box rfl, WkB.box rfl, trivial⟩⟩, hEB _ _ _ _ _ hb hr⟩
    · refine WP.use1 hf ?_
      refine WP.iteT rfl ?_
      refine WP.use1 (lk_bad hb) ?_
      refine WP.iteF rfl ?_
      exact WP.leaf ⟨mEx (rp E T lv (q.c : Nat) (q.a : Nat)) m, ⟨⟨.inl rfl, .inl rfl, .inl rfl, trivial⟩, ⟨WkB.box rfl, WkB.box rfl, WkB.box rfl, trivial⟩⟩, hEB _ _ _ _ _ hb.die hr⟩
theorem decls_loopR (E : REnv) (K : Ex → St → Id.T Out) (P : Rs TMod → Out → Prop)
    (hE : ∀ T t r m, RAt E T t r → t.k = 0 → WP X (K (.exit 2) (mEx (rp E (T : Nat) (0 : Nat) 0 0) m)) (P (.ok m (t :: r))))
    (hEB : ∀ m T lv q res, RB E T lv (q.c : Nat) (q.a : Nat) q → IsBad E res q → WP X (K (.exit 2) (mEx (rp E T lv (q.c : Nat) (q.a : Nat)) m)) (P res)) :
    ∀ n m T t r, RAt E T t r → n + m.cs.length + m.fs.length ≤ 1000000000 → runG (pDecls n m) (t :: r) ≠ .out → ∀ σ : St, getT σ.t 0 = .box base 0 → getT σ.t 2 = .box 2 0 → getT σ.t 3 = .box 3 0 → getB σ.b base = some (rp E (T : Nat) (0 : Nat) 0 0) → getB σ.b 2 = some m0c → (getB σ.b 3 = some (mcA 3 m)) →
      WP X (.loop (lp Tryz.f31 1) σ K) (P (runG (pDecls n m) (t :: r))) := by
  have hbadend := decls_badR E K P hEB
  intro n
  induction n with
  | zero =>
    intro m T t r hA hl hne
    exact absurd rfl hne
  | succ n ih =>
    intro m T t r hA hl hne σ g0 g2 g3 gb gb2 gm
    have e1 : runG (pDecls (n + 1) m) (t :: r) = runG (match decide (t.k = 0) with
      | true => .ret m
      | false => match isT t kExport with
        | true => .next (pDecl (pDecls n) n true m)
        | false => pDecl (pDecls n) n false m) (t :: r) := rfl
    rw [e1] at hne ⊢
    refine WP.round (mEx (rp E (T : Nat) (0 : Nat) 0 0) m) ⟨⟨.inl g0.symm, .inl g2.symm, .inl g3.symm, trivial⟩, ⟨WkB.box gb, WkB.box gb2, WkB.box gm, trivial⟩⟩ ?_
    refine WP.use1 (fine_ok _ _) ?_
    refine WP.iteT rfl ?_
    refine WP.use1 (lk_ok hA _) ?_
    by_cases h0 : t.k = 0
    · simp only [decide_eq_true h0] at hne ⊢
      refine WP.iteF (by simp [h0]) ?_
      exact WP.leaf ⟨mEx (rp E (T : Nat) (0 : Nat) 0 0) m, ⟨⟨.inl rfl, .inl rfl, .inl rfl, trivial⟩, ⟨WkB.box rfl, WkB.box rfl, WkB.box rfl, trivial⟩⟩, hE T t r m hA h0⟩
    simp only [decide_eq_false h0] at hne ⊢
    refine WP.iteT (by simp; omega) ?_
    refine WP.use1 (fine_ok _ _) ?_
    refine WP.iteT rfl ?_
    refine WP.use1 (is_ok hA _ kExport) ?_
    have hc' : ∀ (x : TCons), V.own (3, 1) 13 (csD m.cs ++ [cD x]) = .own (3, 1) 13 (csD (m.cs ++ [x])) := fun x => by
      rw [show csD (m.cs ++ [x]) = csD m.cs ++ csD [x] from List.map_append]; rfl
    have hf' : ∀ (x : TFunc), V.own (3, 2) 6 (fsD m.fs ++ [fD x]) = .own (3, 2) 6 (fsD (m.fs ++ [x])) := fun x => by
      rw [show fsD (m.fs ++ [x]) = fsD m.fs ++ fsD [x] from List.map_append]; rfl
    cases hx : isT t kExport with
    | true =>
      rw [hx] at hne
      refine WP.iteT rfl ?_
      have hS := hA.rs (isT_k hx)
      dsimp only at hne ⊢
      rw [run_next] at hne ⊢
      cases r with
      | nil =>
        have hb : RB E (IntKind.i64.wrap ((T : Int) + 1)) (0 : Nat) 0 0 ⟨E.f.1, E.f.2, ((T + 1 : Nat) : Int)⟩ := by rw [tk_wrap hA]; exact RPend.bad hS _
        refine WP.use1 (is_bad hb kConst) ?_
        refine WP.iteF rfl ?_
        refine WP.use1 (is_bad (hb.die (lv' := (0 : Nat))) kFunc) ?_
        refine WP.iteF rfl ?_
        refine WP.use1 (wrong_bad (hb.die (lv' := (0 : Nat)))) ?_
        refine WP.leaf ?_
        refine hbadend m _ _ _ _ _ _ (hb.die (lv' := (0 : Nat))) (RPend.isBad hS) _ ?_ ?_ ?_ ?_ ?_ ?_
        · rfl
        · rfl
        · rfl
        · rfl
        · rfl
        · rfl
      | cons u r =>
        have hA2 : RAt E (T + 1) u r := hS
        have hi : Does X 63 [.box base 0, vS kConst] [rp E (IntKind.i64.wrap ((T : Int) + 1)) (0 : Nat) 0 0] (.ret (vB (isT u kConst)) [rp E ((T + 1 : Nat) : Int) (0 : Nat) 0 0]) := by
          rw [tk_wrap hA]; exact is_ok hA2 _ _
        unfold pDecl at hne ⊢
        have e2 : ∀ (g : Gr TMod), runL g (u :: r) = runG g (u :: r) := fun _ => rfl
        rw [e2, runG_look] at hne ⊢
        refine WP.use1 hi ?_
        cases hc : isT u kConst with
        | true =>
          rw [hc] at hne
          refine WP.iteT rfl ?_
          refine WP.asrt (by kernel_rfl) ?_
          refine Rf.useP (P := fun res => Round X _ K (P res)) (const_f (by omega) true) hA2 hne ?_ ?_
          · intro x T t r hA hne
            refine WP.asrt (show ((csD m.cs).length + 1) * 152 ≤ 140737488355328 by simp only [List.length_map]; omega) ?_
            refine WP.asrt (by kernel_rfl) ?_
            refine WP.leaf ?_
            refine ih { m with cs := m.cs ++ [x] } T t r hA (by simp only [List.length_append, List.length_singleton]; omega) hne _ ?_ ?_ ?_ ?_ ?_ ?_
            · rfl
            · rfl
            · rfl
            · rfl
            · rfl
            · show some _ = some [_, V.own (3, 1) 13 (csD (m.cs ++ [x])), _]
              rw [← hc']; rfl
          · intro x T lv e w q res hb hr
            refine WP.asrt (show ((csD m.cs).length + 1) * 152 ≤ 140737488355328 by simp only [List.length_map]; omega) ?_
            refine WP.asrt (by kernel_rfl) ?_
            refine WP.leaf ?_
            refine hbadend { m with cs := m.cs ++ [x] } T lv e w q res hb hr _ ?_ ?_ ?_ ?_ ?_ ?_
            · rfl
            · rfl
            · rfl
            · rfl
            · rfl
            · show some _ = some [_, V.own (3, 1) 13 (csD (m.cs ++ [x])), _]
              rw [← hc']; rfl
        | false =>
          rw [hc] at hne
          refine WP.iteF rfl ?_
          refine WP.use1 (is_ok hA2 _ kFunc) ?_
          cases hf : isT u kFunc with
          | true =>
            rw [hf] at hne
            refine WP.iteT rfl ?_
            refine WP.asrt (by kernel_rfl) ?_
            refine Rf.useP (P := fun res => Round X _ K (P res)) (func_f (by omega) true) hA2 hne ?_ ?_
            · intro x T t r hA hne
              refine WP.asrt (show ((fsD m.fs).length + 1) * 88 ≤ 140737488355328 by simp only [List.length_map]; omega) ?_
              refine WP.asrt (by kernel_rfl) ?_
              refine WP.leaf ?_
              refine ih { m with fs := m.fs ++ [x] } T t r hA (by simp only [List.length_append, List.length_singleton]; omega) hne _ ?_ ?_ ?_ ?_ ?_ ?_
              · rfl
              · rfl
              · rfl
              · rfl
              · rfl
              · show some _ = some [_, _, V.own (3, 2) 6 (fsD (m.fs ++ [x]))]
                rw [← hf']; rfl
            · intro x T lv e w q res hb hr
              refine WP.asrt (show ((fsD m.fs).length + 1) * 88 ≤ 140737488355328 by simp only [List.length_map]; omega) ?_
              refine WP.asrt (by kernel_rfl) ?_
              refine WP.leaf ?_
              refine hbadend { m with fs := m.fs ++ [x] } T lv e w q res hb hr _ ?_ ?_ ?_ ?_ ?_ ?_
              · rfl
              · rfl
              · rfl
              · rfl
              · rfl
              · show some _ = some [_, _, V.own (3, 2) 6 (fsD (m.fs ++ [x]))]
                rw [← hf']; rfl
          | false =>
            rw [hf] at hne
            refine WP.iteF rfl ?_
            refine WP.use1 (wrong_ok hA2 _) ?_
            refine WP.leaf ?_
            refine hbadend m ((T + 1 : Nat) : Int) (0 : Nat) (140 : Nat) (u.a : Nat) ⟨140, u.a, ((T + 1 : Nat) : Int)⟩ (.err 140 (u :: r)) (.inl ⟨rfl, rfl, by show (140 : Nat) ≠ 0; decide, rfl⟩) (.inr ⟨140, u, r, rfl, rfl, rfl, _, rfl, hA2⟩) _ ?_ ?_ ?_ ?_ ?_ ?_
            · rfl
            · rfl
            · rfl
            · rfl
            · rfl
            · rfl
    | false =>
      rw [hx] at hne
      refine WP.iteF rfl ?_
      dsimp only at hne ⊢
      unfold pDecl at hne ⊢
      rw [runG_look] at hne ⊢
      refine WP.use1 (is_ok hA _ kConst) ?_
      cases hc : isT t kConst with
      | true =>
        rw [hc] at hne
        refine WP.iteT rfl ?_
        refine WP.asrt (by kernel_rfl) ?_
        refine Rf.useP (P := fun res => Round X _ K (P res)) (const_f (by omega) false) hA hne ?_ ?_
        · intro x T t r hA hne
          refine WP.asrt (show ((csD m.cs).length + 1) * 152 ≤ 140737488355328 by simp only [List.length_map]; omega) ?_
          refine WP.asrt (by kernel_rfl) ?_
          refine WP.leaf ?_
          refine ih { m with cs := m.cs ++ [x] } T t r hA (by simp only [List.length_append, List.length_singleton]; omega) hne _ ?_ ?_ ?_ ?_ ?_ ?_
          · rfl
          · rfl
          · rfl
          · rfl
          · rfl
          · show some _ = some [_, V.own (3, 1) 13 (csD (m.cs ++ [x])), _]
            rw [← hc']; rfl
        · intro x T lv e w q res hb hr
          refine WP.asrt (show ((csD m.cs).length + 1) * 152 ≤ 140737488355328 by simp only [List.length_map]; omega) ?_
          refine WP.asrt (by kernel_rfl) ?_
          refine WP.leaf ?_
          refine hbadend { m with cs := m.cs ++ [x] } T lv e w q res hb hr _ ?_ ?_ ?_ ?_ ?_ ?_
          · rfl
          · rfl
          · rfl
          · rfl
          · rfl
          · show some _ = some [_, V.own (3, 1) 13 (csD (m.cs ++ [x])), _]
            rw [← hc']; rfl
      | false =>
        rw [hc] at hne
        refine WP.iteF rfl ?_
        refine WP.use1 (is_ok hA _ kFunc) ?_
        cases hf : isT t kFunc with
        | true =>
          rw [hf] at hne
          refine WP.iteT rfl ?_
          refine WP.asrt (by kernel_rfl) ?_
          refine Rf.useP (P := fun res => Round X _ K (P res)) (func_f (by omega) false) hA hne ?_ ?_
          · intro x T t r hA hne
            refine WP.asrt (show ((fsD m.fs).length + 1) * 88 ≤ 140737488355328 by simp only [List.length_map]; omega) ?_
            refine WP.asrt (by kernel_rfl) ?_
            refine WP.leaf ?_
            refine ih { m with fs := m.fs ++ [x] } T t r hA (by simp only [List.length_append, List.length_singleton]; omega) hne _ ?_ ?_ ?_ ?_ ?_ ?_
            · rfl
            · rfl
            · rfl
            · rfl
            · rfl
            · show some _ = some [_, _, V.own (3, 2) 6 (fsD (m.fs ++ [x]))]
              rw [← hf']; rfl
          · intro x T lv e w q res hb hr
            refine WP.asrt (show ((fsD m.fs).length + 1) * 88 ≤ 140737488355328 by simp only [List.length_map]; omega) ?_
            refine WP.asrt (by kernel_rfl) ?_
            refine WP.leaf ?_
            refine hbadend { m with fs := m.fs ++ [x] } T lv e w q res hb hr _ ?_ ?_ ?_ ?_ ?_ ?_
            · rfl
            · rfl
            · rfl
            · rfl
            · rfl
            · show some _ = some [_, _, V.own (3, 2) 6 (fsD (m.fs ++ [x]))]
              rw [← hf']; rfl
        | false =>
          rw [hf] at hne
          refine WP.iteF rfl ?_
          refine WP.use1 (wrong_ok hA _) ?_
          refine WP.leaf ?_
          refine hbadend m (T : Nat) (0 : Nat) (140 : Nat) (t.a : Nat) ⟨140, t.a, (T : Nat)⟩ (.err 140 (t :: r)) (.inl ⟨rfl, rfl, by show (140 : Nat) ≠ 0; decide, rfl⟩) (.inr ⟨140, t, r, rfl, rfl, rfl, _, rfl, hA⟩) _ ?_ ?_ ?_ ?_ ?_ ?_
          · rfl
          · rfl
          · rfl
          · rfl
          · rfl
          · rfl

def MPost (E : REnv) (res : Rs TMod) (o : Out) : Prop :=
  match res with
  | .ok m l => ∃ T t r, l = t :: r ∧ t.k = 0 ∧ RAt E T t r ∧ o = .ret (.agg (mOut m)) [rp E (T : Nat) (0 : Nat) 0 0]
  | res => ∃ q T lv, IsBad E res q ∧ RB E T lv (q.c : Nat) (q.a : Nat) q ∧ o = .ret (.agg (mOut ⟨[], [], []⟩)) [rp E T lv (q.c : Nat) (q.a : Nat)]
theorem MPost.bad {E : REnv} {res : Rs TMod} {q : Flt} {T lv : Int} {o : Out} (hr : IsBad E res q) (hb : RB E T lv (q.c : Nat) (q.a : Nat) q) (ho : o = .ret (.agg (mOut ⟨[], [], []⟩)) [rp E T lv (q.c : Nat) (q.a : Nat)]) : MPost E res o := by
  rcases hr with ⟨rfl, h⟩ | ⟨c, t, r, rfl, h⟩
  · exact ⟨q, T, lv, .inl ⟨rfl, h⟩, hb, ho⟩
  · exact ⟨q, T, lv, .inr ⟨c, t, r, rfl, h⟩, hb, ho⟩
theorem mod_f {n : Nat} (hn : n ≤ 1000000000) (E : REnv) (ts : List Tk) (hS : RS E 0 ts) (hne : runL (pModule n) ts ≠ .out) : DoesQ X 31 [.box base 0] [rp E 0 (0 : Nat) 0 0] (MPost E (runL (pModule n) ts)) := by
  refine DoesQ.of Tryz.func31 (by kernel_rfl) ?_
  unfold pModule at hne ⊢
  have hbad : ∀ (m : TMod) (T lv : Int) (q : Flt) (res : Rs TMod), RB E T lv (q.c : Nat) (q.a : Nat) q → IsBad E res q → q.c ≠ 0 := fun _ _ _ _ _ hb _ => hb.nz
  refine incls_loopR _ E _ (MPost E) ?_ ?_ n [] 0 ts hS (by simp; omega) hne _ ?_ ?_ ?_ ?_ ?_ ?_
  rotate_left
  rotate_left
  · rfl
  · rfl
  · rfl
  · rfl
  · rfl
  · exact ⟨_, rfl, ⟨.inr (.inr ⟨(3, 0), 3, 3, rfl, rfl, rfl, rfl⟩), .inr (.inr ⟨(3, 1), 13, 13, rfl, rfl, rfl, rfl⟩), .inr (.inr ⟨(3, 2), 6, 6, rfl, rfl, rfl, rfl⟩), trivial⟩⟩
  · intro T t r l hA hne
    refine decls_loopR E _ (MPost E) ?_ ?_ n ⟨l, [], []⟩ T t r hA (by simp; omega) hne _ ?_ ?_ ?_ ?_ ?_ ?_
    rotate_left
    rotate_left
    · rfl
    · rfl
    · rfl
    · rfl
    · rfl
    · rfl
    · intro T t r m hA h0
      refine WP.use1 (fine_ok _ _) ?_
      refine WP.iteF rfl ?_
      exact WP.leaf ⟨T, t, r, rfl, h0, hA, rfl⟩
    · intro m T lv q res hb hr
      refine WP.use1 (fine_dead (by have := hb.nz; omega)) ?_
      refine WP.iteT rfl ?_
      exact WP.leaf (MPost.bad hr hb rfl)
  · intro l T lv q res hb hr
    refine decls_badR E _ (MPost E) ?_ ⟨l, [], []⟩ T lv _ _ q res hb hr _ ?_ ?_ ?_ ?_ ?_ ?_
    rotate_left
    · rfl
    · rfl
    · rfl
    · rfl
    · rfl
    · rfl
    · intro m T lv q res hb hr
      refine WP.use1 (fine_dead (by have := hb.nz; omega)) ?_
      refine WP.iteT rfl ?_
      exact WP.leaf (MPost.bad hr hb rfl)
end Go.Proofs.YtacfbgfphkfobaaGreatDoor.Id
/-! ## PaRefN -/
namespace Go.Proofs.YtacfbgfphkfobaaGreatDoor.Id
open Go
set_option linter.unusedVariables false
set_option linter.unusedSimpArgs false
set_option maxRecDepth 100000
set_option maxHeartbeats 4000000
variable {X : Given}
abbrev alSt (s : ByteArray) (pre : List Tk) (i : Nat) : St := ⟨[(0, vS s), (3, .box 3 0), (4, .own (64, here) 3 (tksD pre)), (5, vI i)], [(3, [vI 0, vI 0])]⟩
abbrev alEx (l : List Tk) (f : Nat × Nat) : St := ⟨[(2, .own (64, here) 3 (tksD l)), (3, .box 3 0)], [(3, [vI f.1, vI f.2])]⟩
theorem tkD_at (s : ByteArray) (i : Nat) (hi : i ≤ s.size) (he : (nx (L s) i).2.2.2 = 0) : tkD (tkAt s i) = [cZ ((nx (L s) i).1 : Nat), cZ ((nx (L s) i).2.1 : Nat), cZ ((nx (L s) i).2.2.1 : Nat)] := by
  have := (tkAt_to s i hi he).1
  show [cZ ((nx (L s) i).1 : Nat), cZ ((nx (L s) i).2.1 : Nat), cZ (((tkAt s i).a + (tkAt s i).s.size : Nat) : Int)] = _
  rw [this]
theorem all_loop (s : ByteArray) (hs : s.size ≤ 65536) :
    ∀ (n i : Nat) (pre : List Tk), s.size - i < n → i ≤ s.size → pre.length + (s.size - i) ≤ 65536 → ∃ l f, Chain s i n l f ∧ (f.1 = 0 ∨ Endy l → f = (0, 0)) ∧ ∀ (K : Ex → St → Id.T Out) (hR : ∀ l f, WP X (K .ret (alEx l f)) (· = .ret (.tuple [.d (.sl 3 (tksD l)), .agg [cZ (f.1 : Nat), cZ (f.2 : Nat)]]) [])) (σ : St), getT σ.t 0 = vS s → getT σ.t 3 = .box 3 0 → WkV σ (.own (64, here) 3 (tksD pre)) (getT σ.t 4) → getT σ.t 5 = vI i → getB σ.b 3 = some [vI 0, vI 0] →
      WP X (.loop (lp Tryz.f21 0) σ K) (· = .ret (.tuple [.d (.sl 3 (tksD (pre ++ l))), .agg [cZ (f.1 : Nat), cZ (f.2 : Nat)]]) []) := by
  intro n
  induction n with
  | zero => intro i pre h; omega
  | succ n ih =>
    intro i pre hn hi hl
    have hlen : (tksD pre).length = pre.length := by simp
    by_cases he : (nx (L s) i).2.2.2 = 0
    · have hw : V.own (64, here) 3 (tksD pre ++ [[cZ ((nx (L s) i).1 : Nat), cZ ((nx (L s) i).2.1 : Nat), cZ ((nx (L s) i).2.2.1 : Nat)]]) = .own (64, here) 3 (tksD (pre ++ [tkAt s i])) := by
        rw [← tkD_at s i hi he, show tksD (pre ++ [tkAt s i]) = tksD pre ++ tksD [tkAt s i] from List.map_append]; rfl
      by_cases hk : (nx (L s) i).1 = 0
      · refine ⟨_, (0, 0), .fin he hk, fun _ => rfl, ?_⟩
        intro K hR σ g0 g3 g4 g5 gb
        refine WP.round (alSt s pre i) ⟨⟨.inl g0.symm, .inl g3.symm, g4, .inl g5.symm, trivial⟩, ⟨WkB.box gb, trivial⟩⟩ ?_
        refine WP.use1 (rgap s (by omega) i hi) ?_
        refine WP.use1 (rtok_nx s (by omega) i hi) ?_
        refine WP.iteF (by simp [he]) ?_
        refine WP.asrt (show ((tksD pre).length + 1) * 24 ≤ 140737488355328 by rw [hlen]; omega) ?_
        refine WP.iteT (by simp [hk]) ?_
        exact WP.leaf ⟨alEx (pre ++ [tkAt s i]) (0, 0), ⟨⟨.inl hw.symm, .inl rfl, trivial⟩, ⟨WkB.box rfl, trivial⟩⟩, hR _ _⟩
      · have hadv := nx_adv (L s) i (by rw [L_length]; exact hi) he hk
        rw [L_length] at hadv
        obtain ⟨l, f, hc, hf, hW⟩ := ih (nx (L s) i).2.2.1 (pre ++ [tkAt s i]) (by omega) (by omega) (by rw [List.length_append]; simp; omega)
        refine ⟨_, f, .tok he hk hc, fun h => hf (h.imp id fun h => ?_), ?_⟩
        · cases l with
          | nil => exact absurd h.one hk
          | cons u l => exact h.tail
        intro K hR σ g0 g3 g4 g5 gb
        refine WP.round (alSt s pre i) ⟨⟨.inl g0.symm, .inl g3.symm, g4, .inl g5.symm, trivial⟩, ⟨WkB.box gb, trivial⟩⟩ ?_
        refine WP.use1 (rgap s (by omega) i hi) ?_
        refine WP.use1 (rtok_nx s (by omega) i hi) ?_
        refine WP.iteF (by simp [he]) ?_
        refine WP.asrt (show ((tksD pre).length + 1) * 24 ≤ 140737488355328 by rw [hlen]; omega) ?_
        refine WP.iteF (by simp [hk]) ?_
        refine WP.leaf ?_
        simp only [List.append_assoc] at hW
        exact hW K hR _ rfl rfl (.inl hw.symm) rfl rfl
    · refine ⟨_, _, .bad he, fun h => (h.elim (fun h => absurd h he) fun ⟨p, t, h, _⟩ => by simp at h), ?_⟩
      intro K hR σ g0 g3 g4 g5 gb
      rw [List.append_nil]
      refine WP.round (alSt s pre i) ⟨⟨.inl g0.symm, .inl g3.symm, g4, .inl g5.symm, trivial⟩, ⟨WkB.box gb, trivial⟩⟩ ?_
      refine WP.use1 (rgap s (by omega) i hi) ?_
      refine WP.use1 (rtok_nx s (by omega) i hi) ?_
      refine WP.iteT (by simp; omega) ?_
      refine WP.asrt (by kernel_rfl) ?_
      refine WP.asrt (by kernel_rfl) ?_
      exact WP.leaf ⟨alEx pre ((nx (L s) i).2.2.2, (nx (L s) i).2.1), ⟨⟨.inl rfl, .inl rfl, trivial⟩, ⟨WkB.box rfl, trivial⟩⟩, hR _ _⟩
theorem all_does (s : ByteArray) (hs : s.size ≤ 65536) : ∃ l f, Chain s 0 (s.size + 1) l f ∧ (f.1 = 0 ∨ Endy l → f = (0, 0)) ∧ Does X 21 [vS s] [] (.ret (.tuple [.d (.sl 3 (tksD l)), .agg [cZ (f.1 : Nat), cZ (f.2 : Nat)]]) []) := by
  obtain ⟨l, f, hc, hf, hW⟩ := all_loop (X := X) s hs (s.size + 1) 0 [] (by omega) (by omega) (by simp; omega)
  refine ⟨l, f, hc, hf, DoesQ.eq (DoesQ.of Tryz.func21 (by kernel_rfl) ?_)⟩
  refine WP.iteF (decide_eq_false (by omega)) ?_
  refine hW _ ?_ _ ?_ ?_ ?_ ?_ ?_
  rotate_left
  · rfl
  · rfl
  · exact (.inr (.inr ⟨(64, here), 3, 3, rfl, rfl, rfl, rfl⟩))
  · rfl
  · rfl
  · intro l f; exact WP.leaf rfl
theorem all_big (s : ByteArray) (hs : 65536 < s.size) : Does X 21 [vS s] [] (.ret (.tuple [.d (.sl 3 []), .agg [cZ 3, cZ 0]]) []) := by
  refine DoesQ.eq (DoesQ.of Tryz.func21 (by kernel_rfl) ?_)
  refine WP.iteT (decide_eq_true (by omega)) ?_
  exact WP.leaf rfl
end Go.Proofs.YtacfbgfphkfobaaGreatDoor.Id
/-! ## PaRefO -/
namespace Go.Proofs.YtacfbgfphkfobaaGreatDoor.Id
open Go
set_option linter.unusedVariables false
set_option linter.unusedSimpArgs false
set_option maxRecDepth 100000
set_option maxHeartbeats 4000000
variable {X : Given}
/-- what a parser begins with -/
structure Begun (E : REnv) (s : ByteArray) (F : Int) : Prop where
  es : E.s = s
  eF : E.F = F
  h : (s.size ≤ 65536 ∧ Chain s 0 F.toNat E.l E.f) ∨ (65536 < s.size ∧ E.l = [] ∧ E.f = (3, 0))
  full : s.size ≤ 65536 → Chain s 0 (s.size + 1) E.full E.br ∧ (E.br.1 = 0 → E.br = (0, 0))
abbrev rpD (E : REnv) : List D := [.str E.s, .sl 3 (tksD E.full), cZ (E.br.1 : Nat), cZ (E.br.2 : Nat), cZ E.F, cZ 0, cZ 0, cZ 0, cZ 0]
theorem begun_does (s : ByteArray) (F : Int) (hF : -9223372036854775808 ≤ F ∧ F ≤ 9223372036854775807) : ∃ E : REnv, Begun E s F ∧ Does X 30 [vS s, vI F] [] (.ret (.agg (rpD E)) []) := by
  by_cases hs : s.size ≤ 65536
  · obtain ⟨l, f, hc, hf, hD⟩ := all_does (X := X) s hs
    have hlen := chain_len hc (Nat.zero_le _)
    refine ⟨⟨s, F, l, f, hF, by omega, .inl ⟨hs, hc⟩⟩, ⟨rfl, rfl, .inl ⟨hs, REnv.chain ⟨s, F, l, f, hF, by omega, .inl ⟨hs, hc⟩⟩ hc⟩, fun _ => ⟨hc, fun h => hf (.inl h)⟩⟩, ?_⟩
    refine DoesQ.eq (DoesQ.of Tryz.func30 (by kernel_rfl) ?_)
    refine WP.use1 hD ?_
    exact WP.leaf rfl
  · refine ⟨⟨s, F, [], (3, 0), hF, by simp, .inr ⟨rfl, by decide⟩⟩, ⟨rfl, rfl, .inr ⟨by omega, rfl, rfl⟩, fun h => absurd h hs⟩, ?_⟩
    refine DoesQ.eq (DoesQ.of Tryz.func30 (by kernel_rfl) ?_)
    refine WP.use1 (all_big s (by omega)) ?_
    exact WP.leaf rfl
/-- what the reference's parser answers, by the grammar -/
theorem rmodule_q {E : REnv} {s : ByteArray} {F : Int} (h : Begun E s F) (hD : Does X 30 [vS s, vI F] [] (.ret (.agg (rpD E)) [])) (hne : runL (pModule bigN) E.l ≠ .out) : DoesQ X 12 [vS s, vI F] [] (fun o => ∃ (g : Nat × Nat) (m : TMod), o = .ret (.tuple [.agg (mOut m), .agg [cZ g.1, cZ g.2]]) [] ∧ ((∃ t r, runL (pModule bigN) E.l = .ok m (t :: r) ∧ t.k = 0 ∧ g = (0, 0)) ∨ ∃ q, IsBad E (runL (pModule bigN) E.l) q ∧ g = (q.c, q.a) ∧ m = ⟨[], [], []⟩)) := by
  have hS : RS E 0 E.l := by
    have := ratInit E
    cases hl : E.l <;> (rw [hl] at this; exact this)
  have hM := mod_f (X := X) (n := bigN) (by decide) E E.l hS hne
  refine DoesQ.of Tryz.func12 (by kernel_rfl) ?_
  refine WP.use1 hD ?_
  refine WP.use hM fun o ho => ?_
  generalize hr : runL (pModule bigN) E.l = res at ho
  cases res with
  | ok m l =>
    obtain ⟨T, t, r, rfl, h0, hA, rfl⟩ := ho
    repeat refine WP.asrt (by kernel_rfl) ?_
    exact WP.leaf ⟨(0, 0), m, rfl, .inl ⟨t, r, rfl, h0, rfl⟩⟩
  | more =>
    obtain ⟨q, T, lv, hb, hq, rfl⟩ := ho
    repeat refine WP.asrt (by kernel_rfl) ?_
    exact WP.leaf ⟨(q.c, q.a), _, rfl, .inr ⟨q, hb, rfl, rfl⟩⟩
  | err c l =>
    obtain ⟨q, T, lv, hb, hq, rfl⟩ := ho
    repeat refine WP.asrt (by kernel_rfl) ?_
    exact WP.leaf ⟨(q.c, q.a), _, rfl, .inr ⟨q, hb, rfl, rfl⟩⟩
  | out => exact absurd hr hne
theorem rexpr_q {E : REnv} {s : ByteArray} {F : Int} (h : Begun E s F) (hD : Does X 30 [vS s, vI F] [] (.ret (.agg (rpD E)) [])) (hne : runL (pEnd (pLine bigN 0 0)) E.l ≠ .out) : DoesQ X 17 [vS s, vI F] [] (fun o => ∃ (g : Nat × Nat) (m : TExpr), o = .ret (.tuple [.agg (eD m), .agg [cZ g.1, cZ g.2]]) [] ∧ ((∃ t r, runL (pEnd (pLine bigN 0 0)) E.l = .ok m (t :: r) ∧ g = (0, 0)) ∨ ∃ q, IsBad E (runL (pEnd (pLine bigN 0 0)) E.l) q ∧ g = (q.c, q.a) ∧ m = ex0)) := by
  have hS : RS E 0 E.l := by
    have := ratInit E
    cases hl : E.l <;> (rw [hl] at this; exact this)
  refine DoesQ.of Tryz.func17 (by kernel_rfl) ?_
  refine WP.use1 hD ?_
  have hbad : ∀ (q : Flt), IsBad E (runL (pEnd (pLine bigN 0 0)) E.l) q → q.c ≠ 0 → True := fun _ _ _ => trivial
  unfold pEnd at hne ⊢
  refine Rf.useS (P := fun (res : Rs TExpr) (o : Out) => ∃ (g : Nat × Nat) (m : TExpr), o = Out.ret (.tuple [.agg (eD m), .agg [cZ g.1, cZ g.2]]) [] ∧ ((∃ t r, res = .ok m (t :: r) ∧ g = (0, 0)) ∨ ∃ q, IsBad E res q ∧ g = (q.c, q.a) ∧ m = ex0)) (expr_f (n := bigN) (by decide) 0 (by decide)) expr_b hS hne ?_ ?_
  · intro e T t r hA hne
    rw [runG_look] at hne ⊢
    refine WP.use1 (fine_ok _ _) ?_
    refine WP.iteT rfl ?_
    refine WP.use1 (lk_ok hA _) ?_
    by_cases h0 : t.k = 0
    · simp only [decide_eq_true h0] at hne ⊢
      refine WP.iteF (by simp [h0]) ?_
      refine WP.use1 (fine_ok _ _) ?_
      refine WP.iteF rfl ?_
      repeat refine WP.asrt (by kernel_rfl) ?_
      exact WP.leaf ⟨(0, 0), e, rfl, .inl ⟨t, r, rfl, rfl⟩⟩
    · simp only [decide_eq_false h0] at hne ⊢
      refine WP.iteT (by simp; omega) ?_
      refine WP.use1 (wrong_ok hA _) ?_
      refine WP.use1 (fine_dead (by decide)) ?_
      refine WP.iteT rfl ?_
      repeat refine WP.asrt (by kernel_rfl) ?_
      exact WP.leaf ⟨(140, t.a), _, rfl, .inr ⟨⟨140, t.a, T⟩, .inr ⟨140, t, r, rfl, rfl, rfl, _, rfl, hA⟩, rfl, rfl⟩⟩
  · intro e T lv e' w q res hb hr
    rcases fine_b hb with ⟨hne, hf⟩ | ⟨rfl, rfl, hf⟩
    · have he : e' = (q.c : Nat) ∧ w = (q.a : Nat) := by
        rcases hb with ⟨h1, h2, _⟩ | ⟨h1, _⟩
        · exact ⟨h1, h2⟩
        · exact absurd h1 hne
      obtain ⟨rfl, rfl⟩ := he
      refine WP.use1 hf ?_
      refine WP.iteF rfl ?_
      refine WP.use1 hf ?_
      refine WP.iteT rfl ?_
      repeat refine WP.asrt (by kernel_rfl) ?_
      exact WP.leaf ⟨(q.c, q.a), _, rfl, .inr ⟨q, hr, rfl, rfl⟩⟩
    · refine WP.use1 hf ?_
      refine WP.iteT rfl ?_
      refine WP.use1 (lk_bad hb) ?_
      refine WP.iteF rfl ?_
      refine WP.use1 (fine_dead (by have := hb.nz; omega)) ?_
      refine WP.iteT rfl ?_
      repeat refine WP.asrt (by kernel_rfl) ?_
      exact WP.leaf ⟨(q.c, q.a), _, rfl, .inr ⟨q, hr, rfl, rfl⟩⟩
end Go.Proofs.YtacfbgfphkfobaaGreatDoor.Id
/-! ## PaFuB -/
namespace Go.Proofs.YtacfbgfphkfobaaGreatDoor.Id
open Go
set_option linter.unusedVariables false
set_option linter.unusedSimpArgs false
set_option maxRecDepth 100000
variable {X : Given}
abbrev fuF1 : V := .fn 40 [] [.box base 0]
abbrev fuF2 : V := .fn 41 [] [.box base 0]
theorem fuel_early {s : ByteArray} {T e q : Int} {cs' : List V} (h : ReadRun X s (IntKind.i64.wrap ((s.size : Int) + 1)) fuF1 m0V T e q cs') (hc : cs' = m0V ∨ ∃ m, cs' = mcA base m) (he : e = 3 ∨ e = 0) : Does (OrX X) 19 [vS s] [] (.ret (.tuple [vI T, .agg [cZ e, cZ q]]) []) := by
  refine DoesQ.eq (DoesQ.of Tryz.func19 (by kernel_rfl) ?_)
  rcases he with rfl | rfl
  · rcases hc with rfl | ⟨m, rfl⟩
    · refine WP.use1 (read_does h) ?_
      repeat first | refine WP.iteT (by first | rfl | (simp; done) | (simp; omega)) ?_ | refine WP.iteF (by first | rfl | (simp; done) | (simp; omega)) ?_ | refine WP.asrt (by kernel_rfl) ?_
      exact WP.leaf rfl
    · refine WP.use1 (read_does h) ?_
      repeat first | refine WP.iteT (by first | rfl | (simp; done) | (simp; omega)) ?_ | refine WP.iteF (by first | rfl | (simp; done) | (simp; omega)) ?_ | refine WP.asrt (by kernel_rfl) ?_
      exact WP.leaf rfl
  · rcases hc with rfl | ⟨m, rfl⟩
    · refine WP.use1 (read_does h) ?_
      repeat first | refine WP.iteT (by first | rfl | (simp; done) | (simp; omega)) ?_ | refine WP.iteF (by first | rfl | (simp; done) | (simp; omega)) ?_ | refine WP.asrt (by kernel_rfl) ?_
      exact WP.leaf rfl
    · refine WP.use1 (read_does h) ?_
      repeat first | refine WP.iteT (by first | rfl | (simp; done) | (simp; omega)) ?_ | refine WP.iteF (by first | rfl | (simp; done) | (simp; omega)) ?_ | refine WP.asrt (by kernel_rfl) ?_
      exact WP.leaf rfl
set_option maxHeartbeats 4000000 in
theorem fuel_late {s : ByteArray} {T e q T2 e2 q2 : Int} {cs' cs2 : List V} (h : ReadRun X s (IntKind.i64.wrap ((s.size : Int) + 1)) fuF1 m0V T e q cs') (hc : cs' = m0V ∨ ∃ m, cs' = mcA base m) (he : e ≠ 3 ∧ e ≠ 0)
    (h2 : ReadRun X s T fuF2 cs' T2 e2 q2 cs2) (hc2 : cs2 = m0V ∨ ∃ m, cs2 = mcA base m) : Does (OrX X) 19 [vS s] [] (.ret (.tuple [vI (if e2 = 142 then IntKind.i64.wrap (T + 1) else T), .agg [cZ e, cZ q]]) []) := by
  refine DoesQ.eq (DoesQ.of Tryz.func19 (by kernel_rfl) ?_)
  have he1 := he.1
  have he2 := he.2
  rcases hc with rfl | ⟨m, rfl⟩ <;> rcases hc2 with rfl | ⟨m2, rfl⟩
  all_goals
    refine WP.use1 (read_does h) ?_
    refine WP.iteF (by simp [he1]) ?_
    refine WP.iteF (by simp [he2]) ?_
    refine WP.use1 (read_does h2) ?_
    by_cases h142 : e2 = 142
    · refine WP.iteT (by simp [h142]) ?_
      repeat refine WP.asrt (by kernel_rfl) ?_
      rw [if_pos h142]
      exact WP.leaf rfl
    · refine WP.iteF (by simp [h142]) ?_
      repeat refine WP.asrt (by kernel_rfl) ?_
      rw [if_neg h142]
      exact WP.leaf rfl
theorem zne {a b : Nat} (h : a ≠ b) : ((a : Nat) : Int) ≠ ((b : Nat) : Int) := fun e => h (Int.ofNat.inj e)
theorem cutF_all {g : Nat × Nat} : ∀ (l : List Tk) (b : Nat), (∀ p r t, l = p ++ t :: r → t.k = 0 → r = []) → l.length ≤ b → (cutF g l b).1 = l ∧ ((cutF g l b).2 = (0, 0) ∨ (cutF g l b).2 = g ∧ ∀ t ∈ l, t.k ≠ 0)
  | [], b, h, hb => ⟨rfl, .inr ⟨rfl, fun t ht => by cases ht⟩⟩
  | t :: r, b, h, hb => by
    by_cases hk : t.k = 0
    · obtain rfl := h [] r t rfl hk
      rw [cutF_end _ _ _ _ hk]; exact ⟨rfl, .inl rfl⟩
    · cases b with
      | zero => simp at hb
      | succ b =>
        rw [cutF_tok _ _ _ _ hk]
        obtain ⟨h1, h2⟩ := cutF_all (g := g) r b (fun p q u e hu => h (t :: p) q u (by rw [e]; rfl) hu) (by simp at hb; omega)
        refine ⟨by rw [h1], h2.imp id fun ⟨h3, h4⟩ => ⟨h3, fun u hu => ?_⟩⟩
        rcases List.mem_cons.1 hu with rfl | hu
        · exact hk
        · exact h4 u hu
theorem cutF_pre {g : Nat × Nat} : ∀ (p : List Tk) (t : Tk) (r : List Tk), (∀ u ∈ p, u.k ≠ 0) → t.k ≠ 0 → cutF g (p ++ t :: r) p.length = (p, (142, t.a))
  | [], t, r, h, hk => cutF_out _ _ _ hk
  | u :: p, t, r, h, hk => by
    rw [List.cons_append, List.length_cons, cutF_tok _ _ _ _ (h u (by simp)), cutF_pre p t r (fun u hu => h u (by simp [hu])) hk]
theorem cutF_fin {g : Nat × Nat} : ∀ (p : List Tk) (t : Tk), (∀ u ∈ p, u.k ≠ 0) → t.k = 0 → cutF g (p ++ [t]) p.length = (p ++ [t], (0, 0))
  | [], t, h, hk => cutF_end _ _ _ _ hk
  | u :: p, t, h, hk => by
    rw [List.cons_append, List.length_cons, cutF_tok _ _ _ _ (h u (by simp)), cutF_fin p t (fun u hu => h u (by simp [hu])) hk]
theorem run_pre {α : Type} {p : Gr α} (hp : Gd p) {pre r : List Tk} {t : Tk} {c : Nat} (h : runL p (pre ++ t :: r) = .err c (t :: r)) (hne : runL p pre ≠ .out) : runL p pre = .more := by
  cases pre with
  | nil => rfl
  | cons u q =>
    have hg := hp u q
    have ha := runG_app p (u :: q) (t :: r)
    have h : runG p (u :: q ++ t :: r) = .err c (t :: r) := h
    have hne : runG p (u :: q) ≠ .out := hne
    show runG p (u :: q) = .more
    cases hr : runG p (u :: q) with
    | more => rfl
    | out => exact absurd hr hne
    | ok x l => rw [hr] at ha; rw [ha (fun h => by cases h)] at h; cases h
    | err e l =>
      rw [hr] at ha hg
      rw [ha (fun h => by cases h)] at h
      injection h with h1 h2
      have : l = [] := by
        have h3 := congrArg List.length h2
        simp only [List.length_append, List.length_cons] at h3
        exact List.length_eq_zero_iff.1 (by omega)
      exact absurd this hg.2
theorem rd_code {α β : Type} {E : Env} {vo : α → List V} {er : List V → Prop} {res : Rs α} {res0 : Rs β} {T e q : Int} {cs : List V} (h : RdOut E vo er res T e q cs) (hs : sh res = sh res0) : (∃ x r, res0 = .ok x r ∧ e = 0) ∨ (res0 = .more ∧ e = E.f.1) ∨ ∃ c r, res0 = .err c r ∧ e = (c : Nat) := by
  cases res <;> cases res0 <;> first | cases hs | skip
  · exact .inl ⟨_, _, rfl, h.2.1⟩
  · exact .inr (.inl ⟨rfl, h.2.1⟩)
  · obtain ⟨t, r, _, _, h2, _⟩ := h
    exact .inr (.inr ⟨_, _, rfl, h2⟩)
  · exact h.elim
/-- how much fuel a source's tokens take, and the fault -/
def FuelIs (l : List Tk) (f : Nat × Nat) (n : Nat) (g : Nat × Nat) : Prop :=
  match runL (pEnd (pModule bigN)) l with
  | .ok _ _ => n + 1 = l.length ∧ g = (0, 0)
  | .more => n = l.length ∧ g = f
  | .err c r => ∃ t q, r = t :: q ∧ g = (c, t.a) ∧ ∃ T, T + r.length = l.length ∧ n = if t.k = 0 then T else T + 1
  | .out => False
theorem FuelIs.det {l : List Tk} {f : Nat × Nat} {n n' : Nat} {g g' : Nat × Nat} (h : FuelIs l f n g) (h' : FuelIs l f n' g') : n = n' ∧ g = g' := by
  unfold FuelIs at h h'
  split at h
  · rename_i e; rw [e] at h'
    obtain ⟨h1, rfl⟩ := h
    obtain ⟨h2, rfl⟩ := h'
    exact ⟨by omega, rfl⟩
  · rename_i e; rw [e] at h'
    obtain ⟨h1, rfl⟩ := h
    obtain ⟨h2, rfl⟩ := h'
    exact ⟨by omega, rfl⟩
  · rename_i e; rw [e] at h'
    obtain ⟨t, q, rfl, rfl, T, h1, rfl⟩ := h
    obtain ⟨t', q', h2, rfl, T', h3, rfl⟩ := h'
    cases h2
    have : T = T' := by omega
    subst this
    exact ⟨rfl, rfl⟩
  · exact h.elim
theorem modK0 {n : Nat} : ∀ l x t r, runG (pModule n) l = .ok x (t :: r) → t.k = 0 := fun l x t r h => from_ok (m0 := ⟨[], [], []⟩) h
theorem in_L {l : List Tk} (h : l.length ≤ 100000) : runL (pEnd (pModule bigN)) l ≠ .out := by
  cases l with
  | nil => exact fun h => by cases h
  | cons t r => exact module_in _ (by show _ ≤ 100000000; omega) (by simp)
/-- the second reading's code -/
theorem fuel_second (hX : LibX X) {s : ByteArray} (hs : s.size ≤ 65536) {l : List Tk} {f : Nat × Nat} (T : Nat) (hT : T ≤ 65537) {cs' : List V} (hcs : erL 100000000 cs') (hc : Chain s 0 T l f) :
    ∃ T2 e2 q2 cs2, ReadRun X s T fuF2 cs' T2 e2 q2 cs2 ∧ (cs2 = m0V ∨ ∃ m, cs2 = mcA base m) ∧ ((∃ x r, runL (pEnd (pModule bigN)) l = .ok x r ∧ e2 = 0) ∨ (runL (pEnd (pModule bigN)) l = .more ∧ e2 = f.1) ∨ ∃ c r, runL (pEnd (pModule bigN)) l = .err c r ∧ e2 = (c : Nat)) := by
  have hlen := chain_len hc (by omega)
  have hne := in_L (l := l) (by omega)
  have hmx : mx (T : Int) = (T : Int) := by unfold mx; rw [if_neg (by omega)]
  rcases hcs with rfl | ⟨m0, hm, rfl⟩
  · obtain ⟨T2, e2, q2, cs2, h1, h2⟩ := read_gen0 hX (r_fufn2 hX (n := bigN) (by decide)) modK0 ⟨s, T, l.length, f, hs, by omega⟩ (F := T) hmx hc rfl hne
    refine ⟨T2, e2, q2, cs2, h2, ?_, rd_code h1 rfl⟩
    unfold RdOut at h1
    split at h1
    · exact .inr ⟨_, h1.2.2.2⟩
    · exact h1.2.2.2.imp id fun ⟨m, _, h⟩ => ⟨m, h⟩
    · obtain ⟨t, r, _, _, _, _, h⟩ := h1; exact h.imp id fun ⟨m, _, h⟩ => ⟨m, h⟩
    · exact h1.elim
  · have hsh : sh (runL (pEnd (pModFrom bigN m0)) l) = sh (runL (pEnd (pModule bigN)) l) := sh_L (sh_end (sh_from bigN m0)) l
    have hne' : runL (pEnd (pModFrom bigN m0)) l ≠ .out := fun h => by
      rw [h] at hsh
      cases hr : runL (pEnd (pModule bigN)) l with
      | out => exact hne hr
      | ok x r => rw [hr] at hsh; cases hsh
      | more => rw [hr] at hsh; cases hsh
      | err c r => rw [hr] at hsh; cases hsh
    obtain ⟨T2, e2, q2, m', h1, h2⟩ := read_gen1 hX m0 (r_fufn3 hX (n := bigN) (by decide) m0 hm) (fun l x t r h => from_ok h) ⟨s, T, l.length, f, hs, by omega⟩ (F := T) hmx hc rfl hne'
    exact ⟨T2, e2, q2, _, h2, .inr ⟨m', rfl⟩, rd_code h1 hsh⟩
theorem fuel_does (hX : LibX X) {s : ByteArray} (hs : s.size ≤ 65536) {l : List Tk} {f : Nat × Nat} (hc : Chain s 0 (s.size + 1) l f) : ∃ n g, FuelIs l f n g ∧ n ≤ l.length ∧ Does (OrX X) 19 [vS s] [] (.ret (.tuple [vI (n : Nat), .agg [cZ (g.1 : Nat), cZ (g.2 : Nat)]]) []) := by
  have hlen := chain_len hc (by omega)
  have hne := in_L (l := l) (by omega)
  have hw : IntKind.i64.wrap ((s.size : Int) + 1) = (s.size : Int) + 1 := wrapI (by omega) (by omega)
  have hmx : mx (IntKind.i64.wrap ((s.size : Int) + 1)) = ((s.size + 1 : Nat) : Int) := by rw [hw]; unfold mx; rw [if_neg (by omega)]; omega
  have hlast := fun p r t => chain_last hc p r t
  obtain ⟨T, e, q, cs', h1, h2⟩ := read_gen0 hX (r_fufn1 hX (n := bigN) (by decide)) modK0 ⟨s, s.size + 1, l.length, f, hs, by omega⟩ (F := IntKind.i64.wrap ((s.size : Int) + 1)) hmx hc rfl hne
  have hcs : cs' = m0V ∨ ∃ m, cs' = mcA base m := by
    unfold RdOut at h1
    split at h1
    · exact .inr ⟨_, h1.2.2.2⟩
    · exact h1.2.2.2.imp id fun ⟨m, _, h⟩ => ⟨m, h⟩
    · obtain ⟨t, r, _, _, _, _, h⟩ := h1; exact h.imp id fun ⟨m, _, h⟩ => ⟨m, h⟩
    · exact h1.elim
  unfold FuelIs
  generalize hr : runL (pEnd (pModule bigN)) l = res at h1 ⊢
  cases res with
  | ok m r =>
    obtain ⟨h3, rfl, rfl, _⟩ := h1
    have h3 : T + 1 = (l.length : Nat) := h3
    have hl0 : 0 < l.length := by
      cases l with
      | nil => cases hr
      | cons t r => simp
    refine ⟨l.length - 1, (0, 0), ⟨by omega, rfl⟩, by omega, ?_⟩
    have := fuel_early h2 hcs (.inr rfl)
    rw [show T = ((l.length - 1 : Nat) : Int) by omega] at this
    exact this
  | more =>
    obtain ⟨h3, rfl, rfl, h4⟩ := h1
    have h3 : T = (l.length : Nat) := h3
    subst h3
    refine ⟨l.length, f, ⟨rfl, rfl⟩, Nat.le_refl _, ?_⟩
    have hf0 := runL_more (gd_end gd_module) hc hr
    by_cases h5 : f.1 = 3
    · have := fuel_early h2 hcs (.inl (by show ((f.1 : Nat) : Int) = 3; omega))
      exact this
    · have hcut := cut_chain hc (Nat.zero_le _) (by omega) l.length
      obtain ⟨e1, e2⟩ := cutF_all (g := f) l l.length hlast (Nat.le_refl _)
      rw [e1] at hcut
      obtain ⟨T2, c2, q2, cs2, h6, h7, h8⟩ := fuel_second hX hs l.length (by omega) h4 hcut
      have h142 : c2 ≠ 142 := by
        rcases h8 with ⟨x, r, h, rfl⟩ | ⟨h, rfl⟩ | ⟨c, r, h, rfl⟩
        · decide
        · rcases e2 with e2 | ⟨e2, e3⟩
          · rw [e2]; decide
          · rw [e2]
            rcases chain_br hc (Nat.zero_le _) (by omega) with ⟨_, p, t, h9, h10⟩ | h9
            · exact absurd h10 (e3 t (by rw [h9]; simp))
            · exact zne h9.2
        · rw [hr] at h; cases h
      have := fuel_late h2 hcs ⟨zne h5, zne hf0⟩ h6 h7
      rw [if_neg h142] at this
      exact this
  | err c r =>
    obtain ⟨t, r', rfl, h3, rfl, rfl, h4⟩ := h1
    have h3 : T + ((t :: r').length : Nat) = (l.length : Nat) := h3
    have hcode := runL_err (gd_end gd_module) hr
    have hc3 : c ≠ 3 := by rcases hcode with h | h <;> rw [h] <;> decide
    have hc0 : c ≠ 0 := by rcases hcode with h | h <;> rw [h] <;> decide
    have hc142 : c ≠ 142 := by rcases hcode with h | h <;> rw [h] <;> decide
    clear hcode
    obtain ⟨pre, hl, -⟩ := runL_cut hr
    have hTn : T = ((pre.length : Nat) : Int) := by
      have : l.length = pre.length + (t :: r').length := by rw [hl]; simp
      omega
    subst hTn
    have hpl : pre.length < l.length := by rw [hl]; simp
    have hnz : ∀ u ∈ pre, u.k ≠ 0 := fun u hu hk => by
      obtain ⟨a, b, rfl⟩ := List.append_of_mem hu
      have := hlast a (b ++ t :: r') u (by rw [hl]; simp) hk
      simp at this
    have hcut := cut_chain hc (Nat.zero_le _) (by omega) pre.length
    by_cases hk : t.k = 0
    · refine ⟨pre.length, (c, t.a), ⟨t, r', rfl, rfl, pre.length, by rw [hl]; simp, by rw [if_pos hk]⟩, by omega, ?_⟩
      obtain rfl := hlast pre r' t hl hk
      rw [hl, cutF_fin pre t hnz hk, ← hl] at hcut
      obtain ⟨T2, c2, q2, cs2, h6, h7, h8⟩ := fuel_second hX hs pre.length (by omega) h4 hcut
      have h142 : c2 ≠ 142 := by
        rcases h8 with ⟨x, r, h, rfl⟩ | ⟨h, rfl⟩ | ⟨c, r, h, rfl⟩
        · decide
        · show ((0 : Nat) : Int) ≠ 142; decide
        · rw [hr] at h; cases h; exact zne hc142
      have := fuel_late h2 hcs ⟨zne hc3, zne hc0⟩ h6 h7
      rw [if_neg h142] at this
      exact this
    · refine ⟨pre.length + 1, (c, t.a), ⟨t, r', rfl, rfl, pre.length, by rw [hl]; simp, by rw [if_neg hk]⟩, by omega, ?_⟩
      rw [hl, cutF_pre pre t r' hnz hk] at hcut
      obtain ⟨T2, c2, q2, cs2, h6, h7, h8⟩ := fuel_second hX hs pre.length (by omega) h4 hcut
      have hm := run_pre (gd_end gd_module) (hl ▸ hr) (in_L (l := pre) (by omega))
      have h142 : c2 = 142 := by
        rcases h8 with ⟨x, r, h, rfl⟩ | ⟨h, rfl⟩ | ⟨c, r, h, rfl⟩
        · rw [hm] at h; cases h
        · rfl
        · rw [hm] at h; cases h
      have := fuel_late h2 hcs ⟨zne hc3, zne hc0⟩ h6 h7
      rw [if_pos h142, wrapI (by omega) (by omega)] at this
      exact this
  | out => exact absurd hr hne
end Go.Proofs.YtacfbgfphkfobaaGreatDoor.Id
/-! ## PaSameA -/
namespace Go.Proofs.YtacfbgfphkfobaaGreatDoor.Id
open Go
set_option linter.unusedVariables false
set_option linter.unusedSimpArgs false
variable {X : Given}
theorem answ_bad {α : Type} {E : REnv} {res : Rs α} {q : Flt} {z y : α} {g : Nat × Nat} (h : IsBad E res q) (ha : Answ z E.f res g y) : g = (q.c, q.a) ∧ y = z := by
  rcases h with ⟨rfl, h1, h2, _⟩ | ⟨c, t, r, rfl, h1, h2, _⟩
  · obtain ⟨rfl, _, rfl⟩ := ha
    exact ⟨by rw [h1, h2], rfl⟩
  · obtain ⟨_, rfl, t', r', h4, rfl⟩ := ha
    cases h4
    exact ⟨by rw [h1, h2], rfl⟩
theorem runL_end {α : Type} (p : Gr α) (l : List Tk) : runL (pEnd p) l = (runL p l).bind fun x r => runG (.look fun t => match decide (t.k = 0) with | true => .ret x | false => .err 140) r := by
  cases l with
  | nil => rfl
  | cons t r => exact runG_bind p _ _
theorem sm_mod0 : SmM md0 := ⟨by decide, by decide, by decide, fun _ h => (by cases h), fun _ h => (by cases h), fun _ h => (by cases h)⟩
theorem sm_ex0 : smE ex0 := by
  simp only [smE, smEs]
  exact ⟨by decide, by decide, by decide, trivial⟩
theorem modules_same (hX : LibX X) (s : ByteArray) (F : Int) (hF : -9223372036854775808 ≤ F ∧ F ≤ 9223372036854775807) : ∃ (g : Nat × Nat) (m : TMod), SmM m ∧ Does (OrX X) 11 [vS s, vI F] [] (.ret (.tuple [.agg (mD m), .agg [cZ g.1, cZ g.2]]) []) ∧ Does (OrX X) 12 [vS s, vI F] [] (.ret (.tuple [.agg (mD m), .agg [cZ g.1, cZ g.2]]) []) := by
  obtain ⟨E, hE, hD⟩ := begun_does (X := OrX X) s F hF
  rcases hE.h with ⟨hs, hc⟩ | ⟨hs, hl, hf⟩
  · obtain ⟨g, m, ha, h1⟩ := module_does hX hs hF.2 hc
    have hsm : SmM m := by
      cases hr : runL (pEnd (pModule bigN)) E.l with
      | ok x r => rw [hr] at ha; obtain ⟨_, rfl⟩ := ha; exact (told_mod hc hr).2
      | more => rw [hr] at ha; obtain ⟨_, _, rfl⟩ := ha; exact sm_mod0
      | err c r => rw [hr] at ha; obtain ⟨_, rfl, _⟩ := ha; exact sm_mod0
      | out => rw [hr] at ha; exact ha.elim
    refine ⟨g, m, hsm, h1, ?_⟩
    have hne : runL (pModule bigN) E.l ≠ .out := fun h => by
      rw [runL_end, h] at ha; exact ha
    refine DoesQ.eq ((rmodule_q hE hD hne).mono ?_)
    rintro o ⟨g', m', rfl, h⟩
    rcases h with ⟨t, r, hr, h0, rfl⟩ | ⟨q, hq, rfl, rfl⟩
    · have : runL (pEnd (pModule bigN)) E.l = .ok m' (t :: r) := by
        rw [runL_end, hr]
        show runG (match decide (t.k = 0) with | true => .ret m' | false => .err 140) (t :: r) = _
        rw [decide_eq_true h0]; rfl
      rw [this] at ha
      obtain ⟨rfl, rfl⟩ := ha
      rfl
    · have hq' : IsBad E (runL (pEnd (pModule bigN)) E.l) q := by rw [runL_end]; exact hq.conv _
      obtain ⟨rfl, rfl⟩ := answ_bad hq' ha
      rfl
  · refine ⟨(3, 0), md0, sm_mod0, module_big hs, ?_⟩
    have hr : runL (pModule bigN) E.l = .more := by rw [hl]; rfl
    refine DoesQ.eq ((rmodule_q hE hD (by rw [hr]; exact fun h => by cases h)).mono ?_)
    rintro o ⟨g', m', rfl, h⟩
    rw [hr] at h
    rcases h with ⟨t, r, h, _⟩ | ⟨q, hq, rfl, rfl⟩
    · cases h
    · rcases hq with ⟨_, h1, h2, _⟩ | ⟨c, t, r, h, _⟩
      · rw [h1, h2, hf]
      · cases h
theorem exprs_same (hX : LibX X) (s : ByteArray) (F : Int) (hF : -9223372036854775808 ≤ F ∧ F ≤ 9223372036854775807) : ∃ (g : Nat × Nat) (e : TExpr), smE e ∧ Does (OrX X) 16 [vS s, vI F] [] (.ret (.tuple [.agg (eD e), .agg [cZ g.1, cZ g.2]]) []) ∧ Does (OrX X) 17 [vS s, vI F] [] (.ret (.tuple [.agg (eD e), .agg [cZ g.1, cZ g.2]]) []) := by
  obtain ⟨E, hE, hD⟩ := begun_does (X := OrX X) s F hF
  rcases hE.h with ⟨hs, hc⟩ | ⟨hs, hl, hf⟩
  · obtain ⟨g, m, ha, h1⟩ := expr_does hX hs hF.2 hc
    have hsm : smE m := by
      cases hr : runL (pEnd (pLine bigN 0 0)) E.l with
      | ok x r => rw [hr] at ha; obtain ⟨_, rfl⟩ := ha; exact (told_expr hc hr).s
      | more => rw [hr] at ha; obtain ⟨_, _, rfl⟩ := ha; exact sm_ex0
      | err c r => rw [hr] at ha; obtain ⟨_, rfl, _⟩ := ha; exact sm_ex0
      | out => rw [hr] at ha; exact ha.elim
    refine ⟨g, m, hsm, h1, ?_⟩
    have hne : runL (pEnd (pLine bigN 0 0)) E.l ≠ .out := fun h => by rw [h] at ha; exact ha
    refine DoesQ.eq ((rexpr_q hE hD hne).mono ?_)
    rintro o ⟨g', m', rfl, h⟩
    rcases h with ⟨t, r, hr, rfl⟩ | ⟨q, hq, rfl, rfl⟩
    · rw [hr] at ha
      obtain ⟨rfl, rfl⟩ := ha
      rfl
    · obtain ⟨rfl, rfl⟩ := answ_bad hq ha
      rfl
  · refine ⟨(3, 0), ex0, sm_ex0, expr_big hs, ?_⟩
    have hr : runL (pEnd (pLine bigN 0 0)) E.l = .more := by rw [hl]; rfl
    refine DoesQ.eq ((rexpr_q hE hD (by rw [hr]; exact fun h => by cases h)).mono ?_)
    rintro o ⟨g', m', rfl, h⟩
    rw [hr] at h
    rcases h with ⟨t, r, h, _⟩ | ⟨q, hq, rfl, rfl⟩
    · cases h
    · rcases hq with ⟨_, h1, h2, _⟩ | ⟨c, t, r, h, _⟩
      · rw [h1, h2, hf]
      · cases h
end Go.Proofs.YtacfbgfphkfobaaGreatDoor.Id
/-! ## PaFuC -/
namespace Go.Proofs.YtacfbgfphkfobaaGreatDoor.Id
open Go
set_option linter.unusedVariables false
set_option linter.unusedSimpArgs false
set_option maxRecDepth 100000
set_option maxHeartbeats 4000000
variable {X : Given}
/-- with fuel for all tokens, what is left is what stands there -/
structure FedEnv (E : REnv) : Prop where
  c : Chain E.s 0 (E.s.size + 1) E.full E.br
  F : E.F = (E.s.size : Int) + 1
theorem FedEnv.len {E : REnv} (h : FedEnv E) : E.full.length ≤ E.F.toNat := by
  have := chain_len h.c (Nat.zero_le _)
  have := h.F
  omega
theorem FedEnv.l {E : REnv} (h : FedEnv E) : E.l = E.full := (cutF_all E.full E.F.toNat (fun p r t => chain_last h.c p r t) h.len).1
theorem FedEnv.at_ {E : REnv} (h : FedEnv E) {T : Nat} {t : Tk} {r : List Tk} (hA : RAt E T t r) : E.full.drop T = t :: r ∧ T + (t :: r).length = E.full.length := by
  have hlt := hA.lt
  have hl := h.len
  have h1 : (cutF E.br (E.full.drop T) (E.F.toNat - T)).1 = t :: r := congrArg Prod.fst hA.h
  have h2 := (cutF_all (g := E.br) (E.full.drop T) (E.F.toNat - T) (fun p r t hp => chain_last h.c (E.full.take T ++ p) r t (by rw [List.append_assoc, ← hp, List.take_append_drop])) (by rw [List.length_drop]; omega)).1
  rw [h2] at h1
  refine ⟨h1, ?_⟩
  rw [← h1, List.length_drop]; omega
theorem FedEnv.pend {E : REnv} (h : FedEnv E) {T : Nat} (hP : RPend E T) : T = E.full.length := by
  have hle := hP.le
  have hl := h.len
  have h1 : (cutF E.br (E.full.drop T) (E.F.toNat - T)).1 = [] := congrArg Prod.fst hP.h
  have h2 := (cutF_all (g := E.br) (E.full.drop T) (E.F.toNat - T) (fun p r t hp => chain_last h.c (E.full.take T ++ p) r t (by rw [List.append_assoc, ← hp, List.take_append_drop])) (by rw [List.length_drop]; omega)).1
  rw [h2] at h1
  have := congrArg List.length h1
  rw [List.length_drop] at this
  simp at this; omega
theorem rfuel_walk {E : REnv} {s : ByteArray} {T : Nat} {lv : Int} {c a : Nat} (hD : Does X 30 [vS s, vI (IntKind.i64.wrap ((s.size : Int) + 1))] [] (.ret (.agg (rpD E)) [])) (m : TMod)
    (hM : Does X 31 [.box base 0] [rp E 0 (0 : Nat) 0 0] (.ret (.agg (mOut m)) [rp E (T : Nat) lv (c : Nat) (a : Nat)])) (hT : T ≤ 65537) (hc : (c ≠ 140 ∧ c ≠ 141) ∨ ∃ t, E.full[T]? = some t ∧ T < E.full.length ∧ t.k = 0) :
    Does X 20 [vS s] [] (.ret (.tuple [vI (T : Nat), .agg [cZ (c : Nat), cZ (a : Nat)]]) []) := by
  have hL := E.hl
  refine DoesQ.eq (DoesQ.of Tryz.func20 (by kernel_rfl) ?_)
  refine WP.use1 hD ?_
  refine WP.use1 hM ?_
  rcases hc with ⟨h1, h2⟩ | ⟨t, h1, h2, h3⟩
  · refine WP.iteF (decide_eq_false (zne h1)) ?_
    refine WP.iteF (decide_eq_false (zne h2)) ?_
    repeat refine WP.asrt (by kernel_rfl) ?_
    exact WP.leaf rfl
  · by_cases h140 : c = 140
    · subst h140
      refine WP.iteT rfl ?_
      refine WP.iteT (decide_eq_true (by rw [List.length_map]; omega)) ?_
      refine WP.idx _ (by omega) (tks_get h1) ?_
      refine WP.iteF (by simp [h3]) ?_
      repeat refine WP.asrt (by kernel_rfl) ?_
      exact WP.leaf rfl
    · refine WP.iteF (decide_eq_false (zne h140)) ?_
      by_cases h141 : c = 141
      · subst h141
        refine WP.iteT rfl ?_
        refine WP.iteT (decide_eq_true (by rw [List.length_map]; omega)) ?_
        refine WP.idx _ (by omega) (tks_get h1) ?_
        refine WP.iteF (by simp [h3]) ?_
        repeat refine WP.asrt (by kernel_rfl) ?_
        exact WP.leaf rfl
      · refine WP.iteF (decide_eq_false (zne h141)) ?_
        repeat refine WP.asrt (by kernel_rfl) ?_
        exact WP.leaf rfl
theorem rfuel_walk2 {E : REnv} {s : ByteArray} {T : Nat} {lv : Int} {c a : Nat} (hD : Does X 30 [vS s, vI (IntKind.i64.wrap ((s.size : Int) + 1))] [] (.ret (.agg (rpD E)) [])) (m : TMod)
    (hM : Does X 31 [.box base 0] [rp E 0 (0 : Nat) 0 0] (.ret (.agg (mOut m)) [rp E (T : Nat) lv (c : Nat) (a : Nat)])) (hc : c = 140 ∨ c = 141) {t : Tk} (h1 : E.full[T]? = some t) (h2 : T < E.full.length) (h3 : t.k ≠ 0) :
    Does X 20 [vS s] [] (.ret (.tuple [vI ((T + 1 : Nat) : Int), .agg [cZ (c : Nat), cZ (a : Nat)]]) []) := by
  have hL := E.hl
  have hw : IntKind.i64.wrap ((T : Int) + 1) = ((T + 1 : Nat) : Int) := by rw [wrapI (by omega) (by omega)]; omega
  rw [← hw]
  refine DoesQ.eq (DoesQ.of Tryz.func20 (by kernel_rfl) ?_)
  refine WP.use1 hD ?_
  refine WP.use1 hM ?_
  rcases hc with rfl | rfl
  · refine WP.iteT rfl ?_
    refine WP.iteT (decide_eq_true (by rw [List.length_map]; omega)) ?_
    refine WP.idx _ (by omega) (tks_get h1) ?_
    refine WP.iteT (by simp [h3]) ?_
    repeat refine WP.asrt (by kernel_rfl) ?_
    exact WP.leaf rfl
  · refine WP.iteF rfl ?_
    refine WP.iteT rfl ?_
    refine WP.iteT (decide_eq_true (by rw [List.length_map]; omega)) ?_
    refine WP.idx _ (by omega) (tks_get h1) ?_
    refine WP.iteT (by simp [h3]) ?_
    repeat refine WP.asrt (by kernel_rfl) ?_
    exact WP.leaf rfl
theorem RB.T {E : REnv} {T lv : Int} {q : Flt} (h : RB E T lv (q.c : Nat) (q.a : Nat) q) : T = q.T := by
  rcases h with ⟨_, _, _, h⟩ | ⟨_, _, ⟨_, h⟩, _⟩ <;> exact h
theorem rfuel_does (s : ByteArray) (hs : s.size ≤ 65536) : ∃ (l : List Tk) (f : Nat × Nat), Chain s 0 (s.size + 1) l f ∧ ∃ n g, FuelIs l f n g ∧ Does X 20 [vS s] [] (.ret (.tuple [vI (n : Nat), .agg [cZ (g.1 : Nat), cZ (g.2 : Nat)]]) []) := by
  have hw : IntKind.i64.wrap ((s.size : Int) + 1) = (s.size : Int) + 1 := wrapI (by omega) (by omega)
  obtain ⟨E, hE, hD⟩ := begun_does (X := X) s (IntKind.i64.wrap ((s.size : Int) + 1)) (by rw [hw]; omega)
  rcases hE.h with ⟨_, hc⟩ | ⟨hb, _⟩
  · have hEs := hE.es
    have hEF := hE.eF
    subst hEs
    have hF : E.F = (E.s.size : Int) + 1 := by rw [hEF, hw]
    have hfull := (hE.full hs).1
    have hfed : FedEnv E := ⟨hfull, hF⟩
    have hlen := chain_len hfull (Nat.zero_le _)
    have hc : Chain E.s 0 (E.s.size + 1) E.l E.f := by
      have : (IntKind.i64.wrap ((E.s.size : Int) + 1)).toNat = E.s.size + 1 := by rw [hw]; omega
      rw [this] at hc; exact hc
    refine ⟨E.l, E.f, hc, ?_⟩
    have hneE := in_L (l := E.l) (by rw [hfed.l]; omega)
    have he := runL_end (pModule bigN) E.l
    have hne : runL (pModule bigN) E.l ≠ .out := fun h => hneE (by rw [he, h]; rfl)
    have hS : RS E 0 E.l := by
      have := ratInit E
      cases hl : E.l <;> (rw [hl] at this; exact this)
    obtain ⟨o, ho, hM⟩ : ∃ o, MPost E (runL (pModule bigN) E.l) o ∧ Does X 31 [.box base 0] [rp E 0 (0 : Nat) 0 0] o := by
      obtain ⟨o, h1, h2⟩ := mod_f (X := X) (n := bigN) (by decide) E E.l hS hne
      exact ⟨o, h1, h2⟩
    unfold FuelIs
    generalize hr : runL (pModule bigN) E.l = res at ho he
    cases res with
    | ok m l =>
      obtain ⟨T, t, r, rfl, h0, hA, rfl⟩ := ho
      have he : runL (pEnd (pModule bigN)) E.l = .ok m (t :: r) := by
        rw [he]
        show runG (match decide (t.k = 0) with | true => .ret m | false => .err 140) (t :: r) = _
        rw [decide_eq_true h0]; rfl
      rw [he]
      obtain rfl := hA.fin h0
      have hT := (hfed.at_ hA).2
      refine ⟨T, (0, 0), ⟨by rw [hfed.l]; exact hT, rfl⟩, ?_⟩
      exact rfuel_walk hD m hM (by simp at hT; omega) (.inl ⟨by decide, by decide⟩)
    | more =>
      obtain ⟨q, T, lv, hb, hq, rfl⟩ := ho
      rw [he]
      rcases hb with ⟨_, h1, h2, n, h3, hP⟩ | ⟨c, t, r, h, _⟩
      · have hT := hfed.pend hP
        have := hq.T
        rw [h3] at this
        subst this
        refine ⟨n, E.f, ⟨by rw [hfed.l]; exact hT, rfl⟩, ?_⟩
        rw [h1, h2] at hM
        refine rfuel_walk hD _ hM (by omega) (.inl ?_)
        rcases chain_code hc with ⟨hy, hl⟩ | h
        · exact absurd ⟨hy, hl⟩ (Endy_not_more gd_module hr)
        · constructor <;> omega
      · cases h
    | err c l =>
      obtain ⟨q, T, lv, hb, hq, rfl⟩ := ho
      rw [he]
      rcases hb with ⟨h, _⟩ | ⟨c', t, r, h, h1, h2, n, h3, hA⟩
      · cases h
      · cases h
        have hT := hq.T
        rw [h3] at hT
        subst hT
        obtain ⟨hd, hl⟩ := hfed.at_ hA
        rw [h1, h2] at hM
        have hlt := hA.lt
        by_cases hk : t.k = 0
        · refine ⟨n, (c, t.a), ⟨t, r, rfl, rfl, n, by rw [hfed.l]; exact hl, by rw [if_pos hk]⟩, ?_⟩
          exact rfuel_walk hD _ hM (by omega) (.inr ⟨t, hA.get.1, hlt, hk⟩)
        · refine ⟨n + 1, (c, t.a), ⟨t, r, rfl, rfl, n, by rw [hfed.l]; exact hl, by rw [if_neg hk]⟩, ?_⟩
          exact rfuel_walk2 hD _ hM (runL_err gd_module hr) hA.get.1 hlt hk
    | out => exact absurd hr hne
  · omega
theorem fuel_big {s : ByteArray} (hs : 65536 < s.size) : Does (OrX X) 19 [vS s] [] (.ret (.tuple [vI ((0 : Nat) : Int), .agg [cZ ((3 : Nat) : Int), cZ ((0 : Nat) : Int)]]) []) :=
  fuel_early (big_fu _ hs) (.inl rfl) (.inl rfl)
theorem rfuel_big {s : ByteArray} (hs : 65536 < s.size) (hs2 : s.size ≤ 1048576) : Does X 20 [vS s] [] (.ret (.tuple [vI ((0 : Nat) : Int), .agg [cZ ((3 : Nat) : Int), cZ ((0 : Nat) : Int)]]) []) := by
  have hw : IntKind.i64.wrap ((s.size : Int) + 1) = (s.size : Int) + 1 := wrapI (by omega) (by omega)
  obtain ⟨E, hE, hD⟩ := begun_does (X := X) s (IntKind.i64.wrap ((s.size : Int) + 1)) (by rw [hw]; omega)
  rcases hE.h with ⟨h, _⟩ | ⟨_, hl, hf⟩
  · omega
  · have hr : runL (pModule bigN) E.l = .more := by rw [hl]; rfl
    have hS : RS E 0 E.l := by
      have := ratInit E
      cases hl : E.l <;> (rw [hl] at this; exact this)
    obtain ⟨o, ho, hM⟩ : ∃ o, MPost E (runL (pModule bigN) E.l) o ∧ Does X 31 [.box base 0] [rp E 0 (0 : Nat) 0 0] o := by
      obtain ⟨o, h1, h2⟩ := mod_f (X := X) (n := bigN) (by decide) E E.l hS (by rw [hr]; exact fun h => by cases h)
      exact ⟨o, h1, h2⟩
    rw [hr] at ho
    obtain ⟨q, T, lv, hb, hq, rfl⟩ := ho
    rcases hb with ⟨_, h1, h2, n, h3, hP⟩ | ⟨c, t, r, h, _⟩
    · have hT := hq.T
      rw [h3] at hT
      subst hT
      rw [h1, h2, hf] at hM
      have h0 : n = 0 := by
        have hle := hP.le
        have hlf : E.full = [] := by
          rcases E.hc with ⟨h, _⟩ | ⟨h, _⟩
          · rw [hE.es] at h; omega
          · exact h
        rw [hlf] at hle
        simpa using hle
      subst h0
      exact rfuel_walk hD _ hM (by omega) (.inl ⟨by decide, by decide⟩)
    · cases h
theorem fuels_does (hX : LibX X) (s : ByteArray) (hs : s.size ≤ 1048576) : Does (OrX X) 6 [vS s] [] (.ret (vB true) []) := by
  have key : ∃ (n : Nat) (g : Nat × Nat), Does (OrX X) 19 [vS s] [] (.ret (.tuple [vI (n : Nat), .agg [cZ (g.1 : Nat), cZ (g.2 : Nat)]]) []) ∧ Does (OrX X) 20 [vS s] [] (.ret (.tuple [vI (n : Nat), .agg [cZ (g.1 : Nat), cZ (g.2 : Nat)]]) []) := by
    by_cases h : s.size ≤ 65536
    · obtain ⟨l, f, hc, n, g, h1, h2⟩ := rfuel_does (X := OrX X) s h
      obtain ⟨n', g', h3, _, h4⟩ := fuel_does hX h hc
      obtain ⟨rfl, rfl⟩ := h1.det h3
      exact ⟨n, g, h4, h2⟩
    · exact ⟨0, (3, 0), fuel_big (by omega), rfuel_big (by omega) hs⟩
  obtain ⟨n, g, h1, h2⟩ := key
  refine DoesQ.eq (DoesQ.of Tryz.func6 (by kernel_rfl) ?_)
  refine WP.use1 h1 ?_
  refine WP.use1 h2 ?_
  repeat first | refine WP.iteT (by first | rfl | (simp; done) | (simp; omega)) ?_ | refine WP.iteF (by first | rfl | (simp; done) | (simp; omega)) ?_ | refine WP.asrt (by kernel_rfl) ?_ | refine WP.use1 (awake_does hX) ?_
  exact WP.leaf (by simp)
end Go.Proofs.YtacfbgfphkfobaaGreatDoor.Id
/-! ## PaSpA -/
namespace Go.Proofs.YtacfbgfphkfobaaGreatDoor.Id
open Go
set_option linter.unusedVariables false
set_option linter.unusedSimpArgs false
theorem runG_suf {α : Type} {p : Gr α} : ∀ {l r : List Tk} {x : α}, runG p l = .ok x r → ∃ pre, l = pre ++ r := by
  induction p with
  | ret x => intro l r y h; cases h; exact ⟨[], rfl⟩
  | look f ih =>
    intro l r y h
    cases l with
    | nil => cases h
    | cons z w => exact ih z (l := z :: w) h
  | next g ih =>
    intro l r y h
    match l with
    | [] => cases h
    | [z] => cases h
    | z :: u :: w =>
      obtain ⟨pre, h1⟩ := ih (l := u :: w) h
      exact ⟨z :: pre, by rw [h1]; rfl⟩
  | err e => intro l r y h; cases h
  | out => intro l r y h; cases h
theorem runL_suf {α : Type} {p : Gr α} {l r : List Tk} {x : α} (h : runL p l = .ok x r) : ∃ pre, l = pre ++ r := by
  cases l with
  | nil => cases h
  | cons t q => exact runG_suf (show runG p (t :: q) = .ok x r from h)
theorem end_ok {α : Type} {p : Gr α} {l r : List Tk} {x : α} (h : runL (pEnd p) l = .ok x r) : ∃ t q, r = t :: q ∧ t.k = 0 := by
  rw [runL_end] at h
  cases hp : runL p l with
  | more => rw [hp] at h; cases h
  | err e q => rw [hp] at h; cases h
  | out => rw [hp] at h; cases h
  | ok y q =>
    rw [hp] at h
    cases q with
    | nil => cases h
    | cons t q =>
      have h : runG (match decide (t.k = 0) with | true => Gr.ret y | false => Gr.err 140) (t :: q) = .ok x r := h
      by_cases hk : t.k = 0
      · simp only [decide_eq_true hk] at h
        cases h; exact ⟨t, q, rfl, hk⟩
      · simp only [decide_eq_false hk] at h
        cases h
theorem cutF_fin2 {g : Nat × Nat} : ∀ (p : List Tk) (t : Tk) (b : Nat), (∀ u ∈ p, u.k ≠ 0) → t.k = 0 → p.length ≤ b → cutF g (p ++ [t]) b = (p ++ [t], (0, 0))
  | [], t, b, h, hk, hb => cutF_end _ _ _ _ hk
  | u :: p, t, 0, h, hk, hb => by simp at hb
  | u :: p, t, b + 1, h, hk, hb => by
    rw [List.cons_append, cutF_tok _ _ _ _ (h u (by simp)), cutF_fin2 p t b (fun u hu => h u (by simp [hu])) hk (by simp at hb; omega)]
theorem cutF_mid {g : Nat × Nat} : ∀ (p : List Tk) (t : Tk) (r : List Tk) (b : Nat), (∀ u ∈ p, u.k ≠ 0) → t.k ≠ 0 → p.length < b → ∃ r2, (cutF g (p ++ t :: r) b).1 = p ++ t :: r2
  | [], t, r, 0, h, hk, hb => by simp at hb
  | [], t, r, b + 1, h, hk, hb => ⟨(cutF g r b).1, by rw [List.nil_append, cutF_tok _ _ _ _ hk]; rfl⟩
  | u :: p, t, r, 0, h, hk, hb => by simp at hb
  | u :: p, t, r, b + 1, h, hk, hb => by
    obtain ⟨r2, h2⟩ := cutF_mid p t r b (g := g) (fun u hu => h u (by simp [hu])) hk (by simp at hb; omega)
    exact ⟨r2, by rw [List.cons_append, cutF_tok _ _ _ _ (h u (by simp))]; show u :: (cutF g (p ++ t :: r) b).1 = _; rw [h2]; rfl⟩
/-- on fewer tokens than it took, a grammar wants more -/
theorem run_few {α : Type} {p : Gr α} (hp : Gd p) {l pre q : List Tk} {u : Tk} (hl : l = pre ++ u :: q) (hne : runL p pre ≠ .out)
    (h : runL p l = .more ∨ (∃ c r, runL p l = .err c r ∧ r.length ≤ (u :: q).length) ∨ ∃ x r, runL p l = .ok x r ∧ r.length ≤ (u :: q).length) : runL p pre = .more := by
  cases pre with
  | nil => rfl
  | cons v w =>
    have hg := hp v w
    have ha := runG_app p (v :: w) (u :: q)
    have hl' : runL p l = runG p (v :: w ++ u :: q) := by rw [hl]; rfl
    have hne : runG p (v :: w) ≠ .out := hne
    show runG p (v :: w) = .more
    cases hr : runG p (v :: w) with
    | more => rfl
    | out => exact absurd hr hne
    | ok x r =>
      rw [hr] at ha hg
      rw [hl', ha (fun h => by cases h)] at h
      have hpos : 0 < r.length := List.length_pos_iff.2 hg.1
      rcases h with h | ⟨c, r', h, _⟩ | ⟨x', r', h, hle⟩
      · cases h
      · cases h
      · injection h with h1 h2
        rw [← h2, List.length_append] at hle
        omega
    | err e r =>
      rw [hr] at ha hg
      rw [hl', ha (fun h => by cases h)] at h
      have hpos : 0 < r.length := List.length_pos_iff.2 hg.2
      rcases h with h | ⟨c, r', h, hle⟩ | ⟨x', r', h, _⟩
      · cases h
      · injection h with h1 h2
        rw [← h2, List.length_append] at hle
        omega
      · cases h
def treeOf {α : Type} (z : α) : Rs α → α
  | .ok x _ => x
  | _ => z
theorem last_nz {s : ByteArray} {i b : Nat} {l : List Tk} {f : Nat × Nat} (hc : Chain s i b l f) {p q : List Tk} {t : Tk} (hl : l = p ++ t :: q) : ∀ u ∈ p, u.k ≠ 0 := fun u hu hk => by
  obtain ⟨a, b, rfl⟩ := List.append_of_mem hu
  have := chain_last hc a (b ++ t :: q) u (by rw [hl]; simp) hk
  simp at this
structure FuelShape (l : List Tk) (f : Nat × Nat) (n : Nat) (g : Nat × Nat) : Prop where
  le : n ≤ l.length
  why : g.1 ≠ 142
  few : ∀ p u q, l = p ++ u :: q → p.length < n → u.k ≠ 0 ∧ runL (pEnd (pModule bigN)) p = .more
  fed : ∀ b, n ≤ b → ∀ g' m, Answ md0 (cutF f l b).2 (runL (pEnd (pModule bigN)) (cutF f l b).1) g' m → g' = g ∧ m = treeOf md0 (runL (pEnd (pModule bigN)) l)
theorem fuel_shape {s : ByteArray} (hs : s.size ≤ 65536) {l : List Tk} {f : Nat × Nat} {n : Nat} {g : Nat × Nat} (hc : Chain s 0 (s.size + 1) l f) (h : FuelIs l f n g) : FuelShape l f n g := by
  have hlen := chain_len hc (by omega)
  have hout : ∀ p u q, l = p ++ u :: q → runL (pEnd (pModule bigN)) p ≠ .out := fun p u q hl => in_L (by have := congrArg List.length hl; simp at this; omega)
  have hgd : Gd (pEnd (pModule bigN)) := gd_end gd_module
  unfold FuelIs at h
  generalize hr : runL (pEnd (pModule bigN)) l = res at h
  cases res with
  | ok m r =>
    obtain ⟨h1, rfl⟩ := h
    obtain ⟨pre, hl⟩ := runL_suf hr
    obtain ⟨t, q, rfl, hk⟩ := end_ok hr
    obtain rfl := chain_last hc pre q t hl hk
    have hn : n = pre.length := by rw [hl] at h1; simp at h1; omega
    have hnz := last_nz hc hl
    refine ⟨by omega, by decide, fun p u q hp hlt => ⟨fun hu => ?_, run_few hgd hp (hout p u q hp) (.inr (.inr ⟨m, _, hr, by simp⟩))⟩, fun b hb g' m' ha => ?_⟩
    · obtain rfl := chain_last hc p q u hp hu
      have := congrArg List.length (hl.symm.trans hp)
      simp at this; omega
    · rw [hl, cutF_fin2 pre t b hnz hk (by omega), ← hl, hr] at ha
      rw [hr]
      exact ha
  | more =>
    obtain ⟨rfl, rfl⟩ := h
    have hny := Endy_not_more hgd hr
    have hnz : ∀ u ∈ l, u.k ≠ 0 := fun u hu hk => by
      obtain ⟨a, b, hab⟩ := List.append_of_mem hu
      obtain rfl := chain_last hc a b u hab hk
      exact hny ⟨⟨a, u, hab, hk⟩, by rw [hab]; simp⟩
    refine ⟨Nat.le_refl _, ?_, fun p u q hp hlt => ⟨hnz u (by rw [hp]; simp), run_few hgd hp (hout p u q hp) (.inl hr)⟩, fun b hb g' m' ha => ?_⟩
    · rcases chain_br hc (Nat.zero_le _) (by omega) with h | h
      · exact absurd ⟨h.2, h.1⟩ hny
      · exact h.2
    · obtain ⟨e1, e2⟩ := cutF_all (g := g) l b (fun p r t => chain_last hc p r t) hb
      rw [e1, hr] at ha
      rw [hr]
      obtain ⟨h1, h2, h3⟩ := ha
      refine ⟨?_, h3⟩
      rcases e2 with e2 | ⟨e2, _⟩
      · rw [e2] at h2; exact absurd rfl h2
      · rw [h1, e2]
  | err c r =>
    obtain ⟨t, q, rfl, rfl, T, hT, rfl⟩ := h
    have hcode := runL_err hgd hr
    obtain ⟨pre, hl, hcut⟩ := runL_cut hr
    have hTp : T = pre.length := by rw [hl] at hT; simp at hT; omega
    subst hTp
    have hnz := last_nz hc hl
    have hpl : pre.length < l.length := by rw [hl]; simp
    refine ⟨by split <;> omega, by show c ≠ 142; rcases hcode with h | h <;> rw [h] <;> decide, fun p u q' hp hlt => ?_, fun b hb g' m' ha => ?_⟩
    · have hle : p.length ≤ pre.length := by split at hlt <;> omega
      have hlen2 : (t :: q).length ≤ (u :: q').length := by
        have e1 := congrArg List.length hl
        have e2 := congrArg List.length hp
        simp only [List.length_append, List.length_cons] at e1 e2 ⊢
        omega
      refine ⟨fun hu => ?_, run_few hgd hp (hout p u q' hp) (.inr (.inl ⟨c, _, hr, hlen2⟩))⟩
      obtain rfl := chain_last hc p q' u hp hu
      have hq : q = [] := by
        simp only [List.length_cons, List.length_nil] at hlen2
        exact List.length_eq_zero_iff.1 (by omega)
      subst hq
      have hpe : pre = p ∧ [t] = [u] := List.append_inj' (hl.symm.trans hp) rfl
      obtain ⟨rfl, htu⟩ := hpe
      cases htu
      rw [if_pos hu] at hlt
      omega
    · rw [hr]
      by_cases hk : t.k = 0
      · rw [if_pos hk] at hb
        obtain rfl := chain_last hc pre q t hl hk
        rw [hl, cutF_fin2 pre t b hnz hk hb, ← hl, hr] at ha
        obtain ⟨_, h2, t', r', h3, h4⟩ := ha
        cases h3
        exact ⟨h4, h2⟩
      · rw [if_neg hk] at hb
        obtain ⟨r2, h2⟩ := cutF_mid (g := f) pre t q b hnz hk (by omega)
        rw [← hl] at h2
        rw [h2, hcut r2] at ha
        obtain ⟨_, h2, t', r', h3, h4⟩ := ha
        cases h3
        exact ⟨h4, h2⟩
  | out => exact h.elim
end Go.Proofs.YtacfbgfphkfobaaGreatDoor.Id
/-! ## PaSpr -/
namespace Go.Proofs.YtacfbgfphkfobaaGreatDoor.Id
open Go
set_option linter.unusedVariables false
set_option linter.unusedSimpArgs false
def spr (G : Nat → List UInt8) : Nat → List Tk → List UInt8
  | _, [] => []
  | j, t :: r => G j ++ (L t.s ++ spr G (j + 1) r)
theorem spr_blank {G : Nat → List UInt8} (hG : ∀ j, ∃ t, G j = 32 :: t) (j : Nat) (l : List Tk) : Blank (spr G j l) := by
  cases l with
  | nil => exact Or.inl rfl
  | cons t r =>
    obtain ⟨z, hz⟩ := hG j
    exact Or.inr ⟨z ++ (L t.s ++ spr G (j + 1) r), by rw [spr, hz]; rfl⟩
theorem spr_chain {G : Nat → List UInt8} (hG : ∀ j, ∃ t, G j = 32 :: t) (hg : ∀ j t, gapL false (G j ++ t) = (G j).length + gapL false t) {s s' : ByteArray} {i b : Nat} {l : List Tk} {f : Nat × Nat} (hc : Chain s i b l f) :
    i ≤ s.size → Endy l → ∀ (P : List UInt8) (j b' : Nat), L s' = P ++ spr G j l → s'.size - P.length < b' → ∃ l', Chain s' P.length b' l' (0, 0) ∧ TlL l l' := by
  induction hc with
  | bad h1 => rintro _ ⟨p, t, h, _⟩; simp at h
  | out h1 h2 => rintro _ ⟨p, t, h, _⟩; simp at h
  | @fin i b f h1 h2 =>
    intro hi _ P j b' hs hb
    obtain ⟨e1, e2⟩ := nx_end (L s) i h1 h2
    have ht : L (tkAt s i).s = [] := by
      show L (s.extract _ _) = []
      rw [L_extract, e1, e2]; simp
    simp only [spr, ht, List.nil_append, List.append_nil] at hs
    have hsz : s'.size = P.length + (G j).length := by rw [← L_length, hs, List.length_append]
    have hd : (L s').drop P.length = G j := by rw [hs, List.drop_left]
    have hgl : gapL false (G j) = (G j).length := by
      have := hg j []
      rw [List.append_nil] at this
      rw [this]; simp [gapL]
    have hn : nx (L s') P.length = (0, (L s').length, (L s').length, 0) := by
      unfold nx
      rw [hd, hgl, if_pos (by rw [L_length, hsz])]
    refine ⟨[tkAt s' P.length], .fin (by rw [hn]) (by rw [hn]), ⟨tkAt s' P.length, [], rfl, ⟨?_, ?_⟩, rfl⟩⟩
    · show (nx (L s) i).1 = (nx (L s') P.length).1
      rw [h2, hn]
    · refine L_inj ?_
      rw [ht]
      show _ = L (s'.extract _ _)
      rw [L_extract, hn]; simp
  | @tok i b l f h1 h2 h3 ih =>
    intro hi hy P j b' hs hb
    have hto := tkAt_to s i hi h1
    have hadv := nx_adv (L s) i (by rw [L_length]; exact hi) h1 h2
    obtain ⟨b1, b2, b3⟩ := nx_tok (L s) i h1 h2
    have hy' : Endy l := by
      cases l with
      | nil => exact absurd hy.one h2
      | cons u r => exact hy.tail
    have hu := spr_blank hG (j + 1) l
    have hT : L (tkAt s i).s = ((L s).drop (nx (L s) i).2.1).take ((nx (L s) i).2.2.1 - (nx (L s) i).2.1) := by
      show L (s.extract _ _) = _
      rw [L_extract]
    have hTl : (L (tkAt s i).s).length = (nx (L s) i).2.2.1 - (nx (L s) i).2.1 := by rw [hT, List.length_take, List.length_drop]; omega
    have hk : (tkAt s i).k = (nx (L s) i).1 := rfl
    simp only [spr] at hs
    generalize hu0 : spr G (j + 1) l = u at hs hu
    generalize hz : nx (L s) i = z at *
    obtain ⟨k, a, bb, e⟩ := z
    simp only at *
    subst h1
    have hne : (L s).drop a ≠ [] := by
      intro hx
      have := congrArg List.length hx
      rw [List.length_drop] at this
      simp at this; omega
    have htok := tok_ext ((L s).drop a) u (by rw [b3]) hu
    rw [b3] at htok
    simp only at htok
    have hge := gap_ext ((L s).drop a) u (bb - a) (by omega) hne b1 hu
    have hd : (L s').drop P.length = G j ++ (L (tkAt s i).s ++ u) := by rw [hs, List.drop_left]
    have hlen : (L s').length = P.length + ((G j).length + ((bb - a) + u.length)) := by rw [hs]; simp only [List.length_append]; rw [hTl]
    have hgap : gapL false ((L s').drop P.length) = (G j).length := by rw [hd, hg, hT, hge]; rfl
    have hd2 : (L s').drop (P.length + (G j).length) = L (tkAt s i).s ++ u := by rw [← List.drop_drop, hd, List.drop_left]
    have hn : nx (L s') P.length = (k, P.length + (G j).length, P.length + (G j).length + (bb - a), 0) := by
      unfold nx
      rw [hgap, if_neg (by omega), hd2, hT, htok]
      rfl
    cases b' with
    | zero => omega
    | succ b' =>
      have hs2 : L s' = (P ++ G j ++ L (tkAt s i).s) ++ spr G (j + 1) l := by rw [hs, hu0]; simp only [List.append_assoc]
      have hPl : (P ++ G j ++ L (tkAt s i).s).length = P.length + (G j).length + (bb - a) := by simp only [List.length_append]; rw [hTl]
      obtain ⟨l', hc', hl'⟩ := ih (by omega) hy' (P ++ G j ++ L (tkAt s i).s) (j + 1) b' hs2 (by rw [hPl, ← L_length, hlen] at *; omega)
      rw [hPl] at hc'
      refine ⟨tkAt s' P.length :: l', .tok (by rw [hn]) (by rw [hn]; exact h2) (by rw [hn]; exact hc'), ⟨_, _, rfl, ⟨?_, ?_⟩, hl'⟩⟩
      · show (nx (L s) i).1 = (nx (L s') P.length).1
        rw [hn, hz]
      · refine L_inj ?_
        show _ = L (s'.extract _ _)
        rw [L_extract, hn]
        simp only
        rw [hd2, show P.length + (G j).length + (bb - a) - (P.length + (G j).length) = bb - a by omega, ← hTl, List.take_left]
end Go.Proofs.YtacfbgfphkfobaaGreatDoor.Id
/-! ## PaFil -/
namespace Go.Proofs.YtacfbgfphkfobaaGreatDoor.Id
open Go
set_option linter.unusedVariables false
set_option linter.unusedSimpArgs false
set_option maxRecDepth 100000
set_option maxHeartbeats 4000000
variable {X : Given}
def fillB (n : Int) : List UInt8 :=
  if Int.tmod n 6 = 0 then [32] else if Int.tmod n 6 = 1 then [9] else if Int.tmod n 6 = 2 then [10] else if Int.tmod n 6 = 3 then [13]
  else if Int.tmod n 6 = 4 then [47, 47, 32, 120, 10] else if Int.tmod n 6 = 5 then [47, 47, 34, 10] else []
abbrev fillU (c : UInt8) : List UInt8 := fillB (c.toNat : Int)
def fill (l : List UInt8) : List UInt8 := l.flatMap fillU ++ [32]
theorem gap_fillB (n : Int) (t : List UInt8) : gapL false (fillB n ++ t) = (fillB n).length + gapL false t := by
  have h32 : gapL false (32 :: t) = 1 + gapL false t := by simp [gapL, isSp]
  have h9 : gapL false (9 :: t) = 1 + gapL false t := by simp [gapL, isSp]
  have h10 : gapL false (10 :: t) = 1 + gapL false t := by simp [gapL, isSp]
  have h13 : gapL false (13 :: t) = 1 + gapL false t := by simp [gapL, isSp]
  unfold fillB
  split
  · exact h32
  · split
    · exact h9
    · split
      · exact h10
      · split
        · exact h13
        · split
          · show gapL false (47 :: 47 :: 32 :: 120 :: 10 :: t) = _
            simp [gapL, isSp, isSl, headSl, isNl]; omega
          · split
            · show gapL false (47 :: 47 :: 34 :: 10 :: t) = _
              simp [gapL, isSp, isSl, headSl, isNl]; omega
            · simp
theorem gap_fill (l : List UInt8) (t : List UInt8) : gapL false (fill l ++ t) = (fill l).length + gapL false t := by
  unfold fill
  induction l with
  | nil => show gapL false (32 :: t) = _; simp [gapL, isSp]
  | cons n r ih =>
    rw [List.flatMap_cons, List.append_assoc, List.append_assoc, gap_fillB, ← List.append_assoc (r.flatMap fillU), ih]
    simp only [List.length_append, fillU]
    omega
theorem mkB_cat (a b : List UInt8) : mkB a ++ mkB b = mkB (a ++ b) := L_inj (by rw [L_append, L_mkB, L_mkB, L_mkB])
theorem fillB_len (n : Int) : (fillB n).length ≤ 5 := by
  unfold fillB
  split
  · simp
  · split
    · simp
    · split
      · simp
      · split
        · simp
        · split
          · simp
          · split <;> simp
theorem fillF_len (l : List UInt8) : (l.flatMap fillU).length ≤ 5 * l.length := by
  induction l with
  | nil => simp
  | cons x r ih =>
    have := fillB_len (x.toNat : Int)
    rw [List.flatMap_cons, List.length_append, List.length_cons]
    show (fillB (x.toNat : Int)).length + _ ≤ _
    omega
theorem mk_size (l : List UInt8) : (mkB l).size = l.length := by rw [← L_length, L_mkB]
theorem filled_loop (bs : List UInt8) (hl : bs.length ≤ 1048576) (K : Ex → St → Id.T Out) (Q : Out → Prop) (hE : WP X (K (.exit 0) ⟨[(3, vS (mkB (bs.flatMap fillU)))], []⟩) Q) :
    ∀ (r p : List UInt8), bs = p ++ r → ∀ σ : St, getT σ.t 0 = .d (.sl 1 (bs.map byteD)) → getT σ.t 3 = vS (mkB (p.flatMap fillU)) → getT σ.t 4 = vI p.length → WP X (.loop (lp Tryz.f44 0) σ K) Q
  | r, p, h, σ, g0, g3, g4 => by
    refine WP.round ⟨[(0, .d (.sl 1 (bs.map byteD))), (3, vS (mkB (p.flatMap fillU))), (4, vI p.length)], []⟩ ⟨⟨.inl g0.symm, .inl g3.symm, .inl g4.symm, trivial⟩, trivial⟩ ?_
    have hlen : bs.length = p.length + r.length := by rw [h]; simp
    cases r with
    | nil =>
      obtain rfl : bs = p := by rw [h]; simp
      refine WP.iteF (by simp) ?_
      exact WP.leaf ⟨⟨[(3, vS (mkB (bs.flatMap fillU)))], []⟩, ⟨⟨.inl rfl, trivial⟩, trivial⟩, hE⟩
    | cons c r =>
      simp only [List.length_cons] at hlen
      have hfl := fillF_len p
      have hsz := mk_size (p.flatMap fillU)
      have hgo : ∀ x : ByteArray, x = mkB (fillU c) → ∀ σ : St, getT σ.t 0 = .d (.sl 1 (bs.map byteD)) → getT σ.t 3 = vS (mkB (p.flatMap fillU) ++ x) → getT σ.t 4 = vI (IntKind.i64.wrap ((p.length : Int) + 1)) → WP X (.loop (lp Tryz.f44 0) σ K) Q := fun x hx σ g0 g3 g4 => by
        refine filled_loop bs hl K Q hE r (p ++ [c]) (by rw [h]; simp) σ g0 ?_ ?_
        · rw [g3, hx, mkB_cat, List.flatMap_append]; simp
        · rw [g4, wrapI (by omega) (by omega)]; simp
      have hgo0 : fillU c = [] → ∀ σ : St, getT σ.t 0 = .d (.sl 1 (bs.map byteD)) → getT σ.t 3 = vS (mkB (p.flatMap fillU)) → getT σ.t 4 = vI (IntKind.i64.wrap ((p.length : Int) + 1)) → WP X (.loop (lp Tryz.f44 0) σ K) Q := fun hx σ g0 g3 g4 => by
        refine filled_loop bs hl K Q hE r (p ++ [c]) (by rw [h]; simp) σ g0 ?_ ?_
        · rw [g3, List.flatMap_append]; simp [hx]
        · rw [g4, wrapI (by omega) (by omega)]; simp
      refine WP.iteT (by simp; omega) ?_
      refine WP.idx _ (by omega) (map_get byteD h) ?_
      refine WP.asrt (by decide) ?_
      by_cases c0 : Int.tmod (c.toNat : Int) 6 = 0
      · refine WP.iteT (decide_eq_true c0) ?_
        refine WP.asrt (show (mkB (p.flatMap fillU)).size + 1 ≤ 9223372036854775807 by omega) ?_
        refine WP.leaf ?_
        exact hgo (mkB [32]) (by unfold fillU fillB; rw [if_pos c0]) _ rfl rfl rfl
      refine WP.iteF (decide_eq_false c0) ?_
      by_cases c1 : Int.tmod (c.toNat : Int) 6 = 1
      · refine WP.iteT (decide_eq_true c1) ?_
        refine WP.asrt (show (mkB (p.flatMap fillU)).size + 1 ≤ 9223372036854775807 by omega) ?_
        refine WP.leaf ?_
        exact hgo (mkB [9]) (by unfold fillU fillB; rw [if_neg c0, if_pos c1]) _ rfl rfl rfl
      refine WP.iteF (decide_eq_false c1) ?_
      by_cases c2 : Int.tmod (c.toNat : Int) 6 = 2
      · refine WP.iteT (decide_eq_true c2) ?_
        refine WP.asrt (show (mkB (p.flatMap fillU)).size + 1 ≤ 9223372036854775807 by omega) ?_
        refine WP.leaf ?_
        exact hgo (mkB [10]) (by unfold fillU fillB; rw [if_neg c0, if_neg c1, if_pos c2]) _ rfl rfl rfl
      refine WP.iteF (decide_eq_false c2) ?_
      by_cases c3 : Int.tmod (c.toNat : Int) 6 = 3
      · refine WP.iteT (decide_eq_true c3) ?_
        refine WP.asrt (show (mkB (p.flatMap fillU)).size + 1 ≤ 9223372036854775807 by omega) ?_
        refine WP.leaf ?_
        exact hgo (mkB [13]) (by unfold fillU fillB; rw [if_neg c0, if_neg c1, if_neg c2, if_pos c3]) _ rfl rfl rfl
      refine WP.iteF (decide_eq_false c3) ?_
      by_cases c4 : Int.tmod (c.toNat : Int) 6 = 4
      · refine WP.iteT (decide_eq_true c4) ?_
        refine WP.asrt (show (mkB (p.flatMap fillU)).size + 5 ≤ 9223372036854775807 by omega) ?_
        refine WP.leaf ?_
        exact hgo (mkB [47, 47, 32, 120, 10]) (by unfold fillU fillB; rw [if_neg c0, if_neg c1, if_neg c2, if_neg c3, if_pos c4]) _ rfl rfl rfl
      refine WP.iteF (decide_eq_false c4) ?_
      by_cases c5 : Int.tmod (c.toNat : Int) 6 = 5
      · refine WP.iteT (decide_eq_true c5) ?_
        refine WP.asrt (show (mkB (p.flatMap fillU)).size + 4 ≤ 9223372036854775807 by omega) ?_
        refine WP.leaf ?_
        exact hgo (mkB [47, 47, 34, 10]) (by unfold fillU fillB; rw [if_neg c0, if_neg c1, if_neg c2, if_neg c3, if_neg c4, if_pos c5]) _ rfl rfl rfl
      refine WP.iteF (decide_eq_false c5) ?_
      refine WP.leaf ?_
      exact hgo0 (by unfold fillU fillB; rw [if_neg c0, if_neg c1, if_neg c2, if_neg c3, if_neg c4, if_neg c5]) _ rfl rfl rfl
theorem filled_does (bs : List UInt8) (hl : bs.length ≤ 1048576) : Does X 44 [.d (.sl 1 (bs.map byteD))] [] (.ret (vS (mkB (fill bs))) []) := by
  refine DoesQ.eq (DoesQ.of Tryz.func44 (by kernel_rfl) ?_)
  refine filled_loop bs hl _ _ ?_ bs [] rfl _ rfl rfl rfl
  have hfl := fillF_len bs
  have hsz := mk_size (bs.flatMap fillU)
  refine WP.asrt (show (mkB (bs.flatMap fillU)).size + 1 ≤ 9223372036854775807 by omega) ?_
  refine WP.leaf ?_
  unfold fill
  rw [← mkB_cat]
theorem fill_len (l : List UInt8) : (fill l).length ≤ 5 * l.length + 1 := by
  unfold fill
  have := fillF_len l
  rw [List.length_append]; simp only [List.length_cons, List.length_nil]; omega
def gapsG (gs : List (List UInt8)) (j : Nat) : List UInt8 := 32 :: (if gs.length = 0 then [] else fill (gs.getD (j % gs.length) []))
theorem gapsG_blank (gs : List (List UInt8)) (j : Nat) : ∃ t, gapsG gs j = 32 :: t := ⟨_, rfl⟩
theorem gapsG_gap (gs : List (List UInt8)) (j : Nat) (t : List UInt8) : gapL false (gapsG gs j ++ t) = (gapsG gs j).length + gapL false t := by
  unfold gapsG
  have h32 : ∀ u : List UInt8, gapL false (32 :: u) = 1 + gapL false u := fun u => by simp [gapL, isSp]
  rw [List.cons_append, h32, List.length_cons]
  split
  · simp only [List.nil_append, List.length_nil] <;> omega
  · rw [gap_fill]; omega
end Go.Proofs.YtacfbgfphkfobaaGreatDoor.Id
/-! ## PaSprW -/
namespace Go.Proofs.YtacfbgfphkfobaaGreatDoor.Id
open Go
set_option linter.unusedVariables false
set_option linter.unusedSimpArgs false
set_option maxRecDepth 100000
set_option maxHeartbeats 4000000
variable {X : Given}
abbrev gapD (g : List UInt8) : List D := [.sl 1 (g.map byteD)]
abbrev gsD (gs : List (List UInt8)) : List (List D) := gs.map fun g => gapD g
theorem tks_get3 {l p q : List Tk} {u : Tk} (h : l = p ++ u :: q) : (tksD l)[((p.length : Int)).toNat]? = some (tkD u) := by
  subst h; simp
theorem spread_loop (s : ByteArray) (hs : s.size ≤ 65536) (gs : List (List UInt8)) (hgl : gs.length ≤ 1048576) (hgs : ∀ g ∈ gs, g.length ≤ 1048576) (l : List Tk) (hl : l.length ≤ 65537)
    (hP : ∀ t ∈ l, t.a + t.s.size ≤ s.size ∧ s.extract t.a (t.a + t.s.size) = t.s) (K : Ex → St → Id.T Out) (Q : Out → Prop)
    (hE : (spr (gapsG gs) 0 l).length ≤ 65536 → WP X (K (.exit 0) ⟨[(8, .own (26, here) 1 ((spr (gapsG gs) 0 l).map byteD))], []⟩) Q) (hR : WP X (K .ret ⟨[(4, vS .empty), (5, .lit false)], []⟩) Q) :
    ∀ (r p : List Tk) (A : List UInt8), l = p ++ r → spr (gapsG gs) 0 l = A ++ spr (gapsG gs) p.length r → A.length ≤ 65536 → ∀ σ : St, getT σ.t 0 = vS s → getT σ.t 1 = .d (.sl 1 (gsD gs)) → getT σ.t 6 = .d (.sl 3 (tksD l)) → WkV σ (.own (26, here) 1 (A.map byteD)) (getT σ.t 8) → getT σ.t 9 = vI p.length → WP X (.loop (lp Tryz.f22 0) σ K) Q
  | r, p, A, h, hA, hAl, σ, g0, g1, g6, g8, g9 => by
    refine WP.round ⟨[(0, vS s), (1, .d (.sl 1 (gsD gs))), (6, .d (.sl 3 (tksD l))), (8, .own (26, here) 1 (A.map byteD)), (9, vI p.length)], []⟩ ⟨⟨.inl g0.symm, .inl g1.symm, .inl g6.symm, g8, .inl g9.symm, trivial⟩, trivial⟩ ?_
    have hlen : l.length = p.length + r.length := by rw [h]; simp
    cases r with
    | nil =>
      simp only [spr, List.append_nil] at hA
      refine WP.iteF (by simp at hlen; simp; omega) ?_
      refine WP.leaf ⟨⟨[(8, .own (26, here) 1 (A.map byteD))], []⟩, ⟨⟨.inl rfl, trivial⟩, trivial⟩, ?_⟩
      rw [← hA]; exact hE (by rw [hA]; exact hAl)
    | cons t r =>
      simp only [List.length_cons] at hlen
      obtain ⟨hp1, hp2⟩ := hP t (by rw [h]; simp)
      have hgo : ∀ (es : List (List D)), es = (A ++ gapsG gs p.length ++ L t.s).map byteD → (A ++ gapsG gs p.length ++ L t.s).length ≤ 65536 → ∀ σ : St, getT σ.t 0 = vS s → getT σ.t 1 = .d (.sl 1 (gsD gs)) → getT σ.t 6 = .d (.sl 3 (tksD l)) → getT σ.t 8 = .own (26, here) 1 es → getT σ.t 9 = vI (IntKind.i64.wrap ((p.length : Int) + 1)) → WP X (.loop (lp Tryz.f22 0) σ K) Q := fun es hes hle σ g0 g1 g6 g8 g9 => by
        refine spread_loop s hs gs hgl hgs l hl hP K Q hE hR r (p ++ [t]) (A ++ gapsG gs p.length ++ L t.s) (by rw [h]; simp) ?_ hle σ g0 g1 g6 (.inl (by rw [g8, hes])) ?_
        · rw [hA, spr]; simp only [List.append_assoc, List.length_append, List.length_singleton]
        · rw [g9, wrapI (by omega) (by omega)]; simp
      have hte : s.extract t.a (t.a + t.s.size) = t.s := hp2
      have htl : (L t.s).length = t.s.size := L_length _
      refine WP.iteT (by simp; omega) ?_
      refine WP.asrt (show ((A.map byteD).length + 1) * 1 ≤ 140737488355328 by rw [List.length_map]; omega) ?_
      by_cases hg0 : gs.length = 0
      · have hgs0 : gs = [] := List.length_eq_zero_iff.1 hg0
        have hG : gapsG gs p.length = [32] := by unfold gapsG; rw [if_pos hg0]
        refine WP.iteF (by simp; exact hgs0) ?_
        refine WP.asrt (by kernel_rfl) ?_
        refine WP.idx _ (by omega) (tks_get3 h) ?_
        refine WP.idx _ (by omega) (tks_get3 h) ?_
        refine WP.asrt (show (0 : Int) ≤ (t.a : Int) ∧ (t.a : Int) ≤ ((t.a + t.s.size : Nat) : Int) ∧ ((t.a + t.s.size : Nat) : Int) ≤ (s.size : Int) by omega) ?_
        have hbe : byteEs (s.extract ((t.a : Int)).toNat (((t.a + t.s.size : Nat) : Int)).toNat) = (L t.s).map byteD := by
          rw [Int.toNat_natCast, Int.toNat_natCast, hte]; rfl
        refine WP.asrt (show (((A.map byteD ++ [[D.int .u8 32]])).length + (byteEs (s.extract ((t.a : Int)).toNat (((t.a + t.s.size : Nat) : Int)).toNat)).length) * 1 ≤ 140737488355328 by
          rw [hbe]; simp only [List.length_append, List.length_map, List.length_cons, List.length_nil]; omega) ?_
        refine WP.asrt (by kernel_rfl) ?_
        have hes : (A.map byteD ++ [[D.int .u8 32]]) ++ byteEs (s.extract ((t.a : Int)).toNat (((t.a + t.s.size : Nat) : Int)).toNat) = (A ++ gapsG gs p.length ++ L t.s).map byteD := by
          rw [hbe, List.map_append, List.map_append, hG]; rfl
        by_cases hbig : 65536 < (A ++ gapsG gs p.length ++ L t.s).length
        · refine WP.iteT (show decide ((65536 : Int) < (((A.map byteD ++ [[D.int .u8 32]]) ++ byteEs (s.extract ((t.a : Int)).toNat (((t.a + t.s.size : Nat) : Int)).toNat)).length : Nat)) = true from decide_eq_true (by rw [hes, List.length_map]; omega)) ?_
          exact WP.leaf ⟨⟨[(4, vS .empty), (5, .lit false)], []⟩, ⟨⟨.inl rfl, .inl rfl, trivial⟩, trivial⟩, hR⟩
        · refine WP.iteF (show decide ((65536 : Int) < (((A.map byteD ++ [[D.int .u8 32]]) ++ byteEs (s.extract ((t.a : Int)).toNat (((t.a + t.s.size : Nat) : Int)).toNat)).length : Nat)) = false from decide_eq_false (by rw [hes, List.length_map]; omega)) ?_
          refine WP.leaf ?_
          exact hgo _ hes (by omega) _ rfl rfl rfl rfl rfl
      · have hgp : 0 < gs.length := by omega
        have hm : Int.tmod (p.length : Int) (gs.length : Int) = ((p.length % gs.length : Nat) : Int) := by
          rw [Int.tmod_eq_emod_of_nonneg (by omega)]; rfl
        have hml : p.length % gs.length < gs.length := Nat.mod_lt _ hgp
        have hgl2 : (gsD gs).length = gs.length := by rw [List.length_map]
        obtain ⟨g, hg⟩ : ∃ g, gs.getD (p.length % gs.length) [] = g := ⟨_, rfl⟩
        have hgm : g ∈ gs := by
          rw [← hg, List.getD_eq_getElem?_getD, List.getElem?_eq_getElem hml]; exact List.getElem_mem hml
        have hgi : (gsD gs)[(Int.tmod (p.length : Int) ((gsD gs).length : Int)).toNat]? = some (gapD g) := by
          rw [hgl2, hm, Int.toNat_natCast, List.getElem?_map, List.getElem?_eq_getElem hml]
          rw [List.getD_eq_getElem?_getD, List.getElem?_eq_getElem hml] at hg
          have hg : gs[p.length % gs.length] = g := hg
          rw [hg]; rfl
        have hG : gapsG gs p.length = 32 :: fill g := by unfold gapsG; rw [if_neg hg0, hg]
        have hfl := fill_len g
        have hfg := hgs g hgm
        have hbf : (byteEs (mkB (fill g))).length = (fill g).length := by rw [byteEs_len, mk_size]
        refine WP.iteT (by simp; omega) ?_
        refine WP.asrt (show ((gsD gs).length : Int) ≠ 0 by rw [hgl2]; omega) ?_
        refine WP.idx _ (by rw [hgl2, hm]; omega) hgi ?_
        refine WP.use1 (filled_does g hfg) ?_
        refine WP.asrt (show ((A.map byteD ++ [[D.int .u8 32]]).length + (byteEs (mkB (fill g))).length) * 1 ≤ 140737488355328 by
          rw [hbf]; simp only [List.length_append, List.length_map, List.length_cons, List.length_nil]; omega) ?_
        refine WP.asrt (by kernel_rfl) ?_
        refine WP.idx _ (by omega) (tks_get3 h) ?_
        refine WP.idx _ (by omega) (tks_get3 h) ?_
        refine WP.asrt (show (0 : Int) ≤ (t.a : Int) ∧ (t.a : Int) ≤ ((t.a + t.s.size : Nat) : Int) ∧ ((t.a + t.s.size : Nat) : Int) ≤ (s.size : Int) by omega) ?_
        have hbe : byteEs (s.extract ((t.a : Int)).toNat (((t.a + t.s.size : Nat) : Int)).toNat) = (L t.s).map byteD := by
          rw [Int.toNat_natCast, Int.toNat_natCast, hte]; rfl
        refine WP.asrt (show (((A.map byteD ++ [[D.int .u8 32]] ++ byteEs (mkB (fill g)))).length + (byteEs (s.extract ((t.a : Int)).toNat (((t.a + t.s.size : Nat) : Int)).toNat)).length) * 1 ≤ 140737488355328 by
          rw [hbe]; simp only [List.length_append, List.length_map, List.length_cons, List.length_nil]; omega) ?_
        refine WP.asrt (by kernel_rfl) ?_
        have hes : (A.map byteD ++ [[D.int .u8 32]] ++ byteEs (mkB (fill g))) ++ byteEs (s.extract ((t.a : Int)).toNat (((t.a + t.s.size : Nat) : Int)).toNat) = (A ++ gapsG gs p.length ++ L t.s).map byteD := by
          rw [hbe, List.map_append, List.map_append, hG]; rw [List.map_cons]; simp only [byteEs, List.append_assoc]; rfl
        by_cases hbig : 65536 < (A ++ gapsG gs p.length ++ L t.s).length
        · refine WP.iteT (show decide ((65536 : Int) < (((A.map byteD ++ [[D.int .u8 32]] ++ byteEs (mkB (fill g))) ++ byteEs (s.extract ((t.a : Int)).toNat (((t.a + t.s.size : Nat) : Int)).toNat)).length : Nat)) = true from decide_eq_true (by rw [hes, List.length_map]; omega)) ?_
          exact WP.leaf ⟨⟨[(4, vS .empty), (5, .lit false)], []⟩, ⟨⟨.inl rfl, .inl rfl, trivial⟩, trivial⟩, hR⟩
        · refine WP.iteF (show decide ((65536 : Int) < (((A.map byteD ++ [[D.int .u8 32]] ++ byteEs (mkB (fill g))) ++ byteEs (s.extract ((t.a : Int)).toNat (((t.a + t.s.size : Nat) : Int)).toNat)).length : Nat)) = false from decide_eq_false (by rw [hes, List.length_map]; omega)) ?_
          refine WP.leaf ?_
          exact hgo _ hes (by omega) _ rfl rfl rfl rfl rfl
theorem spread_q (s : ByteArray) (hs : s.size ≤ 65536) (gs : List (List UInt8)) (hgl : gs.length ≤ 1048576) (hgs : ∀ g ∈ gs, g.length ≤ 1048576) :
    ∃ l f, Chain s 0 (s.size + 1) l f ∧ (f.1 = 0 ∨ Endy l → f = (0, 0)) ∧ DoesQ X 22 [vS s, .d (.sl 1 (gsD gs))] [] (fun o => (∃ z, o = .ret (.tuple [vS z, vB false]) []) ∨ (f = (0, 0) ∧ (spr (gapsG gs) 0 l).length ≤ 65536 ∧ o = .ret (.tuple [vS (mkB (spr (gapsG gs) 0 l)), vB true]) [])) := by
  obtain ⟨l, f, hc, hf, hA⟩ := all_does (X := X) s hs
  refine ⟨l, f, hc, hf, ?_⟩
  have hlen := chain_len hc (Nat.zero_le _)
  refine DoesQ.of Tryz.func22 (by kernel_rfl) ?_
  refine WP.use1 hA ?_
  by_cases hf0 : f = (0, 0)
  · subst hf0
    refine WP.iteF (by simp) ?_
    refine spread_loop s hs gs hgl hgs l (by omega) (chain_text hc (Nat.zero_le _)) _ _ ?_ ?_ l [] [] rfl rfl (by simp) _ ?_ ?_ ?_ ?_ ?_
    · intro hsz
      refine WP.bytes (spr (gapsG gs) 0 l) rfl ?_
      exact WP.leaf (.inr ⟨rfl, hsz, rfl⟩)
    · exact WP.leaf (.inl ⟨_, rfl⟩)
    · rfl
    · rfl
    · rfl
    · exact (.inr (.inr ⟨(26, here), 1, 1, rfl, rfl, rfl, rfl⟩))
    · rfl
  · obtain ⟨fc, fa⟩ := f
    have hne : ¬ (fc = 0 ∧ fa = 0) := fun h => hf0 (by rw [h.1, h.2])
    refine WP.iteT (by simp; omega) ?_
    exact WP.leaf (.inl ⟨_, rfl⟩)
theorem spread_big (s : ByteArray) (hs : 65536 < s.size) (gs : List (List UInt8)) : ∃ z, Does X 22 [vS s, .d (.sl 1 (gsD gs))] [] (.ret (.tuple [vS z, vB false]) []) := by
  refine ⟨⟨#[]⟩, DoesQ.eq (DoesQ.of Tryz.func22 (by kernel_rfl) ?_)⟩
  refine WP.use1 (all_big s hs) ?_
  refine WP.iteT (by simp) ?_
  exact WP.leaf rfl
end Go.Proofs.YtacfbgfphkfobaaGreatDoor.Id
/-! ## PaLawS -/
namespace Go.Proofs.YtacfbgfphkfobaaGreatDoor.Id
open Go
set_option linter.unusedVariables false
set_option linter.unusedSimpArgs false
set_option maxRecDepth 100000
set_option maxHeartbeats 4000000
variable {X : Given}
theorem module_ans (hX : LibX X) {s : ByteArray} {F : Int} (hs : s.size ≤ 65536) (hF : F ≤ 9223372036854775807) {l : List Tk} {f : Nat × Nat} (hc : Chain s 0 F.toNat l f) :
    ∃ g m, Answ md0 f (runL (pEnd (pModule bigN)) l) g m ∧ SmM m ∧ Does (OrX X) 11 [vS s, vI F] [] (.ret (.tuple [.agg (mD m), .agg [cZ g.1, cZ g.2]]) []) := by
  obtain ⟨g, m, ha, h1⟩ := module_does hX hs hF hc
  refine ⟨g, m, ha, ?_, h1⟩
  cases hr : runL (pEnd (pModule bigN)) l with
  | ok x r => rw [hr] at ha; obtain ⟨_, rfl⟩ := ha; exact (told_mod hc hr).2
  | more => rw [hr] at ha; obtain ⟨_, _, rfl⟩ := ha; exact sm_mod0
  | err c r => rw [hr] at ha; obtain ⟨_, rfl, _⟩ := ha; exact sm_mod0
  | out => rw [hr] at ha; exact ha.elim
theorem tks_get2 {l p q : List Tk} {u : Tk} (h : l = p ++ u :: q) : (tksD l)[((p.length : Int)).toNat]? = some (tkD u) := by
  subst h; simp
theorem spends_does (hX : LibX X) (s : ByteArray) (more fewer : Int) (hs : s.size ≤ 1048576) (hm : 0 ≤ more ∧ more ≤ 65535) (hf : 0 ≤ fewer ∧ fewer ≤ 65535) : Does (OrX X) 7 [vS s, .d (.int .u16 more), .d (.int .u16 fewer)] [] (.ret (vB true) []) := by
  by_cases h : s.size ≤ 65536
  · obtain ⟨l, f, hc, _, hA⟩ := all_does (X := OrX X) s h
    obtain ⟨n, g, hn, hnl, hF⟩ := fuel_does hX h hc
    have hlen := chain_len hc (by omega)
    have hsh := fuel_shape h hc hn
    have hcc : ∀ b, Chain s 0 b (cutF f l b).1 (cutF f l b).2 := cut_chain hc (Nat.zero_le _) (by omega)
    have hat : ∀ F : Int, F ≤ 9223372036854775807 → (n : Int) ≤ F → SmM (treeOf md0 (runL (pEnd (pModule bigN)) l)) ∧ Does (OrX X) 11 [vS s, vI F] [] (.ret (.tuple [.agg (mD (treeOf md0 (runL (pEnd (pModule bigN)) l))), .agg [cZ g.1, cZ g.2]]) []) := fun F hF1 hF2 => by
      obtain ⟨g', m, h1, h2, h3⟩ := module_ans hX h hF1 (hcc F.toNat)
      obtain ⟨rfl, rfl⟩ := hsh.fed F.toNat (by omega) g' m h1
      exact ⟨h2, h3⟩
    obtain ⟨hsm, hM1⟩ := hat n (by omega) (Int.le_refl _)
    have hS := sameM_does (X := OrX X) true _ _ hsm (eqM_refl true _)
    have hwhy := zne hsh.why
    generalize treeOf md0 (runL (pEnd (pModule bigN)) l) = m at *
    refine DoesQ.eq (DoesQ.of Tryz.func7 (by kernel_rfl) ?_)
    refine WP.use1 hF ?_
    refine WP.iteF (by simp) ?_
    refine WP.iteF (decide_eq_false hwhy) ?_
    refine WP.use1 hM1 ?_
    have hw1 : IntKind.i64.wrap more = more := wrapI (by omega) (by omega)
    have hw2 : IntKind.i64.wrap ((n : Int) + IntKind.i64.wrap more) = (n : Int) + more := by rw [hw1]; exact wrapI (by omega) (by omega)
    have hM2 := (hat (IntKind.i64.wrap ((n : Int) + IntKind.i64.wrap more)) (by rw [hw2]; omega) (by rw [hw2]; omega)).2
    refine WP.use1 hM2 ?_
    refine WP.iteF (by simp) ?_
    refine WP.iteF (by simp) ?_
    refine WP.use1 hS ?_
    refine WP.iteF rfl ?_
    by_cases hn0 : n = 0
    · subst hn0
      refine WP.iteT rfl ?_
      refine WP.use1 (awake_does hX) ?_
      exact WP.leaf (by simp)
    refine WP.iteF (by simp; omega) ?_
    have hK : (IntKind.i64.wrap fewer).tmod (n : Int) = ((fewer.toNat % n : Nat) : Int) := by
      rw [wrapI (by omega) (by omega), Int.tmod_eq_emod_of_nonneg hf.1, Int.natCast_emod, Int.toNat_of_nonneg hf.1]
    have hlt : fewer.toNat % n < n := Nat.mod_lt _ (by omega)
    generalize fewer.toNat % n = K at hK hlt
    obtain ⟨p, u, q, hl, hp⟩ : ∃ p u q, l = p ++ u :: q ∧ p.length = K := by
      refine ⟨l.take K, l[K]'(by omega), l.drop (K + 1), ?_, by rw [List.length_take]; omega⟩
      rw [List.getElem_cons_drop, List.take_append_drop]
    subst hp
    obtain ⟨hk, hmore⟩ := hsh.few p u q hl hlt
    have hM3 : Does (OrX X) 11 [vS s, vI ((IntKind.i64.wrap fewer).tmod (n : Int))] [] (.ret (.tuple [.agg (mD md0), .agg [cZ ((142 : Nat) : Int), cZ (u.a : Nat)]]) []) := by
      rw [hK]
      have hcK := hcc p.length
      rw [hl, cutF_pre p u q (last_nz hc hl) hk] at hcK
      obtain ⟨g', m', h1, h2, h3⟩ := module_ans hX h (F := (p.length : Int)) (by omega) (by rw [Int.toNat_natCast]; exact hcK)
      rw [hmore] at h1
      obtain ⟨rfl, _, rfl⟩ := h1
      exact h3
    have hlen2 : p.length < l.length := by omega
    refine WP.asrt (by omega) ?_
    refine WP.use1 hA ?_
    refine WP.use1 hM3 ?_
    rw [hK]
    repeat first | refine WP.asrt (by kernel_rfl) ?_ | refine WP.iteT (by first | rfl | (simp; done) | (simp; omega)) ?_ | refine WP.idx _ (by omega) (tks_get2 hl) ?_ | refine WP.use1 (awake_does hX) ?_
    exact WP.leaf (by simp)
  · have hM : ∀ F : Int, Does (OrX X) 11 [vS s, vI F] [] (.ret (.tuple [.agg (mD md0), .agg [cZ 3, cZ 0]]) []) := fun F => module_big (by omega)
    have hS := sameM_does (X := OrX X) true md0 md0 sm_mod0 (eqM_refl true _)
    have hF := fuel_big (X := X) (s := s) (by omega)
    refine DoesQ.eq (DoesQ.of Tryz.func7 (by kernel_rfl) ?_)
    refine WP.use1 hF ?_
    refine WP.iteF (by simp) ?_
    refine WP.iteF (by simp) ?_
    refine WP.use1 (hM _) ?_
    refine WP.use1 (hM _) ?_
    refine WP.iteF (by simp) ?_
    refine WP.iteF (by simp) ?_
    refine WP.use1 hS ?_
    refine WP.iteF rfl ?_
    refine WP.iteT rfl ?_
    refine WP.use1 (awake_does hX) ?_
    exact WP.leaf (by simp)
end Go.Proofs.YtacfbgfphkfobaaGreatDoor.Id
/-! ## PaLawP -/
namespace Go.Proofs.YtacfbgfphkfobaaGreatDoor.Id
open Go
set_option linter.unusedVariables false
set_option linter.unusedSimpArgs false
set_option maxRecDepth 100000
set_option maxHeartbeats 4000000
variable {X : Given}
theorem cutF_pl {f f' : Nat × Nat} (hf : f.1 = f'.1) : ∀ (l l' : List Tk) (b : Nat), TlL l l' → TlL (cutF f l b).1 (cutF f' l' b).1 ∧ (cutF f l b).2.1 = (cutF f' l' b).2.1
  | [], l', b, h => by
    have : l' = [] := h
    subst this
    cases b <;> exact ⟨rfl, hf⟩
  | t :: r, l', b, h => by
    obtain ⟨t', r', rfl, ht, hr⟩ := h
    by_cases hk : t.k = 0
    · have hk' : t'.k = 0 := by rw [← ht.1]; exact hk
      rw [cutF_end _ _ _ _ hk, cutF_end _ _ _ _ hk']
      exact ⟨⟨_, _, rfl, ht, rfl⟩, rfl⟩
    · have hk' : t'.k ≠ 0 := by rw [← ht.1]; exact hk
      cases b with
      | zero => rw [cutF_out _ _ _ hk, cutF_out _ _ _ hk']; exact ⟨rfl, rfl⟩
      | succ b =>
        rw [cutF_tok _ _ _ _ hk, cutF_tok _ _ _ _ hk']
        obtain ⟨h1, h2⟩ := cutF_pl hf r r' b hr
        exact ⟨⟨_, _, rfl, ht, h1⟩, h2⟩
theorem answ_pl {l l' : List Tk} {f f' g g' : Nat × Nat} {m m' : TMod} (hl : TlL l l') (hf : f.1 = f'.1) (ha : Answ md0 f (runL (pEnd (pModule bigN)) l) g m) (ha' : Answ md0 f' (runL (pEnd (pModule bigN)) l') g' m') : g.1 = g'.1 ∧ EqM false m m' := by
  have h := pl_L (pl_end (pl_module (n := bigN))) hl
  cases hr : runL (pEnd (pModule bigN)) l with
  | ok x r =>
    rw [hr] at h ha
    obtain ⟨y, r', e, hxy, _⟩ := h
    rw [e] at ha'
    obtain ⟨rfl, rfl⟩ := ha
    obtain ⟨rfl, rfl⟩ := ha'
    exact ⟨rfl, hxy⟩
  | more =>
    rw [hr] at h ha
    have h : runL (pEnd (pModule bigN)) l' = .more := h
    rw [h] at ha'
    obtain ⟨rfl, _, rfl⟩ := ha
    obtain ⟨rfl, _, rfl⟩ := ha'
    exact ⟨hf, eqM_refl false _⟩
  | err c r =>
    rw [hr] at h ha
    obtain ⟨r', e, hrr⟩ := h
    rw [e] at ha'
    obtain ⟨_, rfl, t, q, rfl, rfl⟩ := ha
    obtain ⟨_, rfl, t', q', rfl, rfl⟩ := ha'
    exact ⟨rfl, eqM_refl false _⟩
  | out => rw [hr] at ha; exact ha.elim
theorem fuelIs_pl {l l' : List Tk} {f f' g g' : Nat × Nat} {n n' : Nat} (hl : TlL l l') (hf : f.1 = f'.1) (ha : FuelIs l f n g) (ha' : FuelIs l' f' n' g') : n = n' ∧ g.1 = g'.1 := by
  have h := pl_L (pl_end (pl_module (n := bigN))) hl
  have hlen := All2.len hl
  unfold FuelIs at ha ha'
  cases hr : runL (pEnd (pModule bigN)) l with
  | ok x r =>
    rw [hr] at h ha
    obtain ⟨y, r', e, hxy, _⟩ := h
    rw [e] at ha'
    obtain ⟨h1, rfl⟩ := ha
    obtain ⟨h2, rfl⟩ := ha'
    exact ⟨by omega, rfl⟩
  | more =>
    rw [hr] at h ha
    have h : runL (pEnd (pModule bigN)) l' = .more := h
    rw [h] at ha'
    obtain ⟨h1, rfl⟩ := ha
    obtain ⟨h2, rfl⟩ := ha'
    exact ⟨by omega, hf⟩
  | err c r =>
    rw [hr] at h ha
    obtain ⟨r', e, hrr⟩ := h
    rw [e] at ha'
    obtain ⟨t, q, rfl, rfl, T, h1, rfl⟩ := ha
    obtain ⟨t', q', rfl, rfl, T', h2, rfl⟩ := ha'
    have h3 := All2.len hrr
    obtain ⟨t2, q2, e2, ht, _⟩ := hrr
    cases e2
    have hT : T = T' := by omega
    subst hT
    rw [ht.1]
    exact ⟨rfl, rfl⟩
  | out => rw [hr] at ha; exact ha.elim
theorem gaps_does (hX : LibX X) (s : ByteArray) (gs : List (List UInt8)) (F : Int) (hs : s.size ≤ 1048576) (hg : (∀ g ∈ gs, g.length ≤ 1048576) ∧ gs.length ≤ 1048576) (hF : -9223372036854775808 ≤ F ∧ F ≤ 9223372036854775807) : Does (OrX X) 8 [vS s, .d (.sl 1 (gs.map fun g => [.sl 1 (g.map byteD)])), vI F] [] (.ret (vB true) []) := by
  have hno : ∀ z, Does (OrX X) 22 [vS s, .d (.sl 1 (gsD gs))] [] (.ret (.tuple [vS z, vB false]) []) → Does (OrX X) 8 [vS s, .d (.sl 1 (gsD gs)), vI F] [] (.ret (vB true) []) := fun z h => by
    refine DoesQ.eq (DoesQ.of Tryz.func8 (by kernel_rfl) ?_)
    refine WP.use1 h ?_
    refine WP.iteT rfl ?_
    refine WP.use1 (awake_does hX) ?_
    exact WP.leaf (by simp)
  by_cases h : s.size ≤ 65536
  · obtain ⟨l, f, hc, hfe, o, ho, hS⟩ := spread_q (X := OrX X) s h gs hg.2 hg.1
    have hS : Does (OrX X) 22 [vS s, .d (.sl 1 (gsD gs))] [] o := hS
    rcases ho with ⟨z, rfl⟩ | ⟨rfl, hsz, rfl⟩
    · exact hno z hS
    · have hz : (mkB (spr (gapsG gs) 0 l)).size = (spr (gapsG gs) 0 l).length := mk_size _
      generalize hs' : mkB (spr (gapsG gs) 0 l) = s' at hS hz
      have hLs' : L s' = [] ++ spr (gapsG gs) 0 l := by rw [← hs', L_mkB, List.nil_append]
      have hs2 : s'.size ≤ 65536 := by omega
      have hy : Endy l := by
        rcases chain_f hc with ⟨_, h⟩ | h
        · exact h
        · exact absurd rfl h
      obtain ⟨l', hc', hl⟩ := spr_chain (gapsG_blank gs) (gapsG_gap gs) hc (Nat.zero_le _) hy [] 0 (s'.size + 1) hLs' (by rw [List.length_nil]; omega)
      have hc' : Chain s' 0 (s'.size + 1) l' (0, 0) := hc'
      obtain ⟨n, g, hn, _, hF1⟩ := fuel_does hX h hc
      obtain ⟨n', g', hn', _, hF2⟩ := fuel_does hX hs2 hc'
      obtain ⟨rfl, hgg⟩ := fuelIs_pl hl rfl hn hn'
      obtain ⟨hcl, hcf⟩ := cutF_pl (f := (0, 0)) (f' := (0, 0)) rfl l l' F.toNat hl
      obtain ⟨ga, ma, ha1, ha2, ha3⟩ := module_ans hX h hF.2 (cut_chain hc (Nat.zero_le _) (by omega) F.toNat)
      obtain ⟨gb, mb, hb1, hb2, hb3⟩ := module_ans hX hs2 hF.2 (cut_chain hc' (Nat.zero_le _) (by omega) F.toNat)
      obtain ⟨hab, hM⟩ := answ_pl hcl hcf ha1 hb1
      have hSame := sameM_does (X := OrX X) false ma mb ha2 hM
      refine DoesQ.eq (DoesQ.of Tryz.func8 (by kernel_rfl) ?_)
      refine WP.use1 hS ?_
      refine WP.iteF rfl ?_
      refine WP.use1 ha3 ?_
      refine WP.use1 hb3 ?_
      refine WP.use1 hF1 ?_
      refine WP.use1 hF2 ?_
      rw [hab, hgg]
      repeat first | refine WP.iteT (by first | rfl | (simp; done) | (simp; omega)) ?_ | refine WP.use1 hSame ?_ | refine WP.asrt (by kernel_rfl) ?_ | refine WP.use1 (awake_does hX) ?_
      exact WP.leaf (by simp)
  · obtain ⟨z, hS⟩ := spread_big (X := OrX X) s (by omega) gs
    exact hno z hS
end Go.Proofs.YtacfbgfphkfobaaGreatDoor.Id
