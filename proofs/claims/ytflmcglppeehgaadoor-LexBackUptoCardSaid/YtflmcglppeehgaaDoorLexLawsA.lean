/- Layer lex: the laws LexPlaces, LexReads. -/
import Derived.Test.YtflmcglppeehgaaDoorLexAll
namespace Go.Proofs.YtflmcglppeehgaaDoor.Pure
open Go.RowKit Go.Proofs.YtflmcglppeehgaaDoor.P Go.Proofs.YtflmcglppeehgaaDoor.Base Go.Proofs.YtflmcglppeehgaaDoorW.PrintWords Go.Proofs.YtflmcglppeehgaaDoorW.PrintLast Go.Proofs.YtflmcglppeehgaaDoorW.PrintMore
set_option linter.unusedVariables false
set_option linter.unusedSimpArgs false

/-! ### LexPlaces -/
def tl (p : List UInt8) : Nat := (p.reverse.takeWhile (fun c => !isNl c)).length
theorem tl_snoc (p : List UInt8) (c : UInt8) : tl (p ++ [c]) = if isNl c = true then 0 else tl p + 1 := by
  unfold tl
  rw [List.reverse_append]
  show (List.takeWhile (fun c => !isNl c) (c :: p.reverse)).length = _
  rw [List.takeWhile_cons]
  cases h : isNl c <;> simp
theorem isNl_iff (c : UInt8) : isNl c = true ↔ c = 10 := by
  unfold isNl
  rw [decide_eq_true_eq, ← UInt8.toNat_inj]; rfl
theorem last_loop (s : ByteArray) (hs : s.size ≤ 1048576) : ∀ (n : Nat), n ≤ s.size → Ev (fun k => bytealg_LastIndexByteString.l0 k s 10 ((n : Int) - 1)) ((n : Int) - 1 - (tl ((L s).take n) : Nat))
  | 0, h => by
    refine Ev.step (fun k => bytealg_LastIndexByteString.l0.eq_2 _ _ _ k) (Ev.ite_neg (by omega) (Ev.some_ ?_))
    rfl
  | n + 1, h => by
    have hl : n < (L s).length := by rw [L_length]; omega
    have hd : (L s).drop n = (L s)[n] :: (L s).drop (n + 1) := List.drop_eq_getElem_cons hl
    obtain ⟨hb, hi⟩ := bt_drop hd
    have ht := take_drop_succ hd
    have e1 : (((n + 1 : Nat) : Int) - 1) = (n : Int) := by omega
    rw [ht, tl_snoc, e1]
    refine Ev.step (fun k => bytealg_LastIndexByteString.l0.eq_2 _ _ _ k) (Ev.ite_pos (by omega) (Ev.ite_pos (by omega) (Ev.ite_pos (by omega) ?_)))
    rw [hb]
    generalize (L s)[n] = c
    by_cases hc : isNl c = true
    · refine Ev.ite_pos (by unfold isNl at hc; simp at hc; omega) (Ev.some_ ?_)
      rw [if_pos hc]; simp
    · refine Ev.ite_neg (by unfold isNl at hc; simp at hc; omega) ?_
      rw [wrap_id (by omega) (by omega), if_neg hc]
      refine (last_loop s hs n (by omega)).eq ?_
      omega
theorem lastIdx (s : ByteArray) (hs : s.size ≤ 1048576) : Ev (fun k => strings_LastIndexByte.f k s 10) ((s.size : Int) - 1 - (tl (L s) : Nat)) := by
  unfold strings_LastIndexByte.f bytealg_LastIndexByteString.f
  rw [wrap_id (by omega) (by omega)]
  have := last_loop s hs s.size (Nat.le_refl _)
  rw [List.take_of_length_le (by rw [L_length]; exact Nat.le_refl _)] at this
  exact Ev.bind this (Ev.some_ rfl)
theorem rplace_loop (s : ByteArray) (hs : s.size ≤ 1048576) (a : Nat) (ha : a ≤ s.size) : ∀ (n i : Nat), a - i = n → i ≤ a →
    Ev (fun k => treadleref12_Place.l0 k s a ((1 + ((L s).take i).count 10 : Nat) : Int) ((1 + tl ((L s).take i) : Nat) : Int) i) (((1 + ((L s).take a).count 10 : Nat) : Int), ((1 + tl ((L s).take a) : Nat) : Int), 0)
  | 0, i, hn, hi => by
    obtain rfl : i = a := by omega
    exact Ev.step (fun k => treadleref12_Place.l0.eq_2 _ _ _ _ _ k) (Ev.ite_neg (by omega) (Ev.some_ rfl))
  | n + 1, i, hn, hi => by
    have hl : i < (L s).length := by rw [L_length]; omega
    have hd : (L s).drop i = (L s)[i] :: (L s).drop (i + 1) := List.drop_eq_getElem_cons hl
    obtain ⟨hb, hi'⟩ := bt_drop hd
    have ht := take_drop_succ hd
    have ih := rplace_loop s hs a ha n (i + 1) (by omega) (by omega)
    have hc1 : ((L s).take i).count 10 ≤ 1048576 := Nat.le_trans List.count_le_length (by rw [List.length_take, L_length]; omega)
    have ht1 : tl ((L s).take i) ≤ 1048576 := by
      unfold tl
      refine Nat.le_trans (tw_le _ _) ?_
      rw [List.length_reverse, List.length_take, L_length]; omega
    rw [ht, tl_snoc, List.count_append] at ih
    refine Ev.step (fun k => treadleref12_Place.l0.eq_2 _ _ _ _ _ k) (Ev.ite_pos (by omega) (Ev.ite_pos (by omega) (Ev.ite_pos (by omega) ?_)))
    rw [hb, wrap_succ (i := i) (by omega)]
    generalize (L s)[i] = c at *
    generalize hX : ((L s).take i).count 10 = X at *
    generalize tl ((L s).take i) = Y at *
    by_cases hc : isNl c = true
    · have hc10 := (isNl_iff c).mp hc
      refine Ev.ite_pos (by unfold isNl at hc; simp at hc; omega) ?_
      rw [wrap_succ (i := 1 + X) (by omega)]
      rw [if_pos hc, hc10] at ih
      exact ih
    · have hc10 : ¬ c = 10 := fun e => hc ((isNl_iff c).mpr e)
      refine Ev.ite_neg (by unfold isNl at hc; simp at hc; omega) ?_
      rw [wrap_succ (i := 1 + Y) (by omega)]
      rw [if_neg hc] at ih
      have : List.count 10 [c] = 0 := by rw [List.count_singleton]; simp [hc10]
      rw [this] at ih
      exact ih
def plI (s : ByteArray) (a : Int) : Int × Int × Int :=
  if s.size > 65536 then (0, 0, 3) else if a < 0 ∨ a > s.size then (0, 0, 1) else (((1 + ((L s).take a.toNat).count 10 : Nat) : Int), ((1 + tl ((L s).take a.toNat) : Nat) : Int), 0)
theorem rplace (s : ByteArray) (hs : s.size ≤ 1048576) (a : Int) : Ev (fun k => treadleref12_Place.f k s a) (plI s a) := by
  unfold treadleref12_Place.f plI
  by_cases h1 : s.size > 65536
  · exact Ev.ite_pos (by omega) (Ev.some_ (by rw [if_pos h1]))
  refine Ev.ite_neg (by omega) ?_
  rw [if_neg h1]
  have jt : ∀ b : Bool, b = true → Ev (fun k => treadleref12_Place.j0 k s a b) (0, 0, 1) := fun b hb =>
    Ev.step (fun k => treadleref12_Place.j0.eq_2 _ _ _ k) (Ev.ite_pos hb (Ev.some_ rfl))
  by_cases h2 : a < 0
  · refine Ev.ite_pos h2 ?_
    rw [if_pos (Or.inl h2)]; exact jt _ rfl
  refine Ev.ite_neg h2 ?_
  by_cases h3 : a > s.size
  · rw [if_pos (Or.inr h3)]; exact jt _ (decide_eq_true h3)
  rw [if_neg (by omega), decide_eq_false h3]
  refine Ev.step (fun k => treadleref12_Place.j0.eq_2 _ _ _ k) (Ev.ite_neg (by simp) ?_)
  obtain ⟨i, rfl⟩ : ∃ i : Nat, a = (i : Int) := ⟨a.toNat, by omega⟩
  rw [Int.toNat_natCast]
  exact rplace_loop s hs i (by omega) i 0 (by omega) (by omega)
theorem lplace (s : ByteArray) (hs : s.size ≤ 1048576) (a : Int) : Ev (fun k => lex_Place.f k s a) (plI s a) := by
  unfold lex_Place.f plI
  by_cases h1 : s.size > 65536
  · exact Ev.ite_pos (by omega) (Ev.some_ (by rw [if_pos h1]))
  refine Ev.ite_neg (by omega) ?_
  rw [if_neg h1]
  have jt : ∀ b : Bool, b = true → Ev (fun k => lex_Place.j0 k s a b) (0, 0, 1) := fun b hb =>
    Ev.step (fun k => lex_Place.j0.eq_2 _ _ _ k) (Ev.ite_pos hb (Ev.some_ rfl))
  by_cases h2 : a < 0
  · refine Ev.ite_pos h2 ?_
    rw [if_pos (Or.inl h2)]; exact jt _ rfl
  refine Ev.ite_neg h2 ?_
  by_cases h3 : a > s.size
  · rw [if_pos (Or.inr h3)]; exact jt _ (decide_eq_true h3)
  rw [if_neg (by omega), decide_eq_false h3]
  refine Ev.step (fun k => lex_Place.j0.eq_2 _ _ _ k) (Ev.ite_neg (by simp) ?_)
  obtain ⟨i, rfl⟩ : ∃ i : Nat, a = (i : Int) := ⟨a.toNat, by omega⟩
  rw [Int.toNat_natCast]
  refine Ev.ite_pos (by omega) (Ev.ite_pos (by omega) ?_)
  have e0 : L (s.extract 0 i) = (L s).take i := by rw [L_extract]; simp
  have ez : (s.extract 0 i).size = i := by rw [size_eq_L, e0, List.length_take, L_length]; omega
  have hli := lastIdx (s.extract 0 i) (by omega)
  rw [e0, ez] at hli
  have hcnt : strings_Count.f (s.extract 0 i) (⟨#[10]⟩ : ByteArray) = some ((((L s).take i).count 10 : Nat) : Int) := by
    rw [← e0]; rfl
  refine Ev.bind_now hcnt (Ev.bind hli (Ev.some_ ?_))
  have hc1 : ((L s).take i).count 10 ≤ 1048576 := Nat.le_trans List.count_le_length (by rw [List.length_take, L_length]; omega)
  have ht1 : tl ((L s).take i) ≤ 1048576 := by
    unfold tl
    refine Nat.le_trans (tw_le _ _) ?_
    rw [List.length_reverse, List.length_take, L_length]; omega
  rw [wrap_id (by omega) (by omega), wrap_id (by omega) (by omega)]
  simp only [Prod.mk.injEq]
  refine ⟨by omega, by omega, trivial⟩
theorem LexPlaces (src : ByteArray) (at_ : Int) (hs : src.size ≤ 1048576) : Ev (fun k => treadlelaw12_LexPlaces.f k src at_) true := by
  unfold treadlelaw12_LexPlaces.f
  refine Ev.bind (lplace src hs at_) (Ev.bind (rplace src hs at_) ?_)
  exact Ev.ite_pos rfl (Ev.ite_pos rfl (Ev.ite_pos rfl (Ev.bind awake (Ev.some_ rfl))))

/-! ### LexReads -/
theorem digit_not_letter (c : UInt8) (h : isD c = true) : ¬ isL c = true := by
  have := byte_all (p := fun c => !(isD c && isL c)) (by decide +kernel) c
  intro h2; rw [h, h2] at this; cases this
theorem tw_eq_all (p : UInt8 → Bool) (l : List UInt8) : (l.takeWhile p).length = l.length ↔ l.all p = true := by
  constructor
  · intro h
    have h1 := tw_take p l
    rw [h, List.take_length] at h1
    rw [h1]; exact tw_all p l
  · intro h
    induction l with
    | nil => rfl
    | cons c r ih =>
      rw [List.all_cons, Bool.and_eq_true] at h
      rw [List.takeWhile_cons, if_pos h.1, List.length_cons, List.length_cons, ih h.2]
theorem just_num (l : List UInt8) : just l 2 = numOk l := by
  cases l with
  | nil => simp [just, numOk, lead0]
  | cons c r =>
    unfold just
    show (decide (c :: r ≠ []) && decide ((tokC c r).2.2 = 0) && decide ((tokC c r).1 = 2) && decide ((tokC c r).2.1 = (c :: r).length)) = _
    have hne : decide (c :: r ≠ []) = true := by simp
    rw [hne, Bool.true_and]
    by_cases h2 : isD c = true
    · have h1 := digit_not_letter c h2
      unfold tokC
      rw [if_neg h1, if_pos h2]
      by_cases ha : (c :: r).all isD = true
      · have hn := (tw_eq_all isD (c :: r)).mpr ha
        rw [hn, List.take_length, List.drop_length]
        have : headL [] = false := rfl
        rw [this, Bool.not_false, Bool.and_true]
        cases hk : numOk (c :: r) with
        | true => simp
        | false => simp
      · have hk : numOk (c :: r) = false := by unfold numOk; simp only [Bool.not_eq_true] at ha; rw [ha]; rfl
        have hn : ¬ ((c :: r).takeWhile isD).length = (c :: r).length := fun e => ha ((tw_eq_all isD (c :: r)).mp e)
        rw [hk]
        generalize ((c :: r).takeWhile isD).length = n at *
        split
        · rw [decide_eq_false hn]; simp
        · simp
    · have hk : numOk (c :: r) = false := by unfold numOk; rw [List.all_cons]; simp only [Bool.not_eq_true] at h2; rw [h2]; rfl
      rw [hk]
      have : ¬ (tokC c r).1 = 2 := by
        unfold tokC
        split
        · split
          · simp
          · split <;> simp
        · (try rw [if_neg h2])
          split
          · cases quo r with
            | none => simp
            | some z => obtain ⟨t, n⟩ := z; simp
          · split <;> simp
      rw [decide_eq_false this]; simp
theorem lnumber (s : ByteArray) (hs : s.size ≤ 1048576) : Ev (fun k => lex_Number.f k s) (numR (L s)) := by
  unfold lex_Number.f
  have hj := ljust s hs 2
  rw [just_num] at hj
  refine Ev.bind hj ?_
  unfold numR
  cases hk : numOk (L s) with
  | false => exact Ev.ite_neg (by simp) (Ev.some_ rfl)
  | true =>
    have hall : (L s).all isD = true := by unfold numOk at hk; simp only [Bool.and_eq_true] at hk; exact hk.1.1
    obtain ⟨v, hw, hv⟩ := lwhole s hs hall (numOk_digit hk)
    exact Ev.ite_pos rfl (Ev.bind_now hw (Ev.some_ (by rw [hv hk]; rfl)))
def textR (l : List UInt8) : ByteArray × Int := match l with
  | [] => (⟨#[]⟩, 122)
  | c :: r => if c.toNat = 34 then (match quo r with
      | none => (⟨#[]⟩, 122)
      | some (t, n) => if n = (c :: r).length then (mkB t, 0) else (⟨#[]⟩, 122)) else (⟨#[]⟩, 122)
theorem ltext (s : ByteArray) (hs : s.size ≤ 1048576) : Ev (fun k => lex_Text.f k s) (textR (L s)) := by
  unfold lex_Text.f
  refine Ev.bind (lquoted s hs) ?_
  have hz := size_eq_L s
  unfold textR
  cases h : L s with
  | nil => exact Ev.ite_pos rfl (Ev.some_ rfl)
  | cons c r =>
    rw [h] at hz
    simp only
    by_cases hq : c.toNat = 34
    · rw [if_pos hq, if_pos hq]
      cases hx : quo r with
      | none => exact Ev.ite_pos rfl (Ev.some_ rfl)
      | some z =>
        obtain ⟨t, n⟩ := z
        have := quo_le hx
        simp only
        refine Ev.ite_neg (by omega) ?_
        by_cases hn : n = (c :: r).length
        · exact Ev.ite_pos (by omega) (Ev.some_ (by rw [if_pos hn]))
        · exact Ev.ite_neg (by omega) (Ev.some_ (by rw [if_neg hn]))
    · rw [if_neg hq, if_neg hq]
      exact Ev.ite_pos rfl (Ev.some_ rfl)
theorem rtext (s : ByteArray) (hs : s.size ≤ 1048576) : Ev (fun k => treadleref12_Text.f k s) (textR (L s)) := by
  unfold treadleref12_Text.f
  have hz := size_eq_L s
  have jt : ∀ b : Bool, b = true → Ev (fun k => treadleref12_Text.j0 k s b) (⟨#[]⟩, 122) := fun b hb =>
    Ev.step (fun k => treadleref12_Text.j0.eq_2 _ _ k) (Ev.ite_pos hb (Ev.some_ rfl))
  unfold textR
  cases h : L s with
  | nil => rw [h] at hz; exact Ev.ite_pos (by rw [hz]; rfl) (jt _ rfl)
  | cons c r =>
    rw [h] at hz
    have hpos : 0 < s.size := by rw [hz]; simp
    obtain ⟨hb0, hi0⟩ := bt_drop (i := 0) (s := s) (c := c) (r := r) (by simpa using h)
    have hb0 : bt s 0 = (c.toNat : Int) := hb0
    refine Ev.ite_neg (by omega) (Ev.ite_pos (by omega) ?_)
    rw [hb0]
    by_cases hq : c.toNat = 34
    · have e : ((c.toNat : Int) != 34) = false := by rw [bne_eq_false_iff_eq]; omega
      simp only
      rw [e, if_pos hq]
      refine Ev.step (fun k => treadleref12_Text.j0.eq_2 _ _ k) (Ev.ite_neg (by simp) ?_)
      refine Ev.bind (rquoted s hs 0 c r (by simpa using h)) ?_
      cases hx : quo r with
      | none => exact Ev.ite_neg (by simp only; omega) (Ev.some_ rfl)
      | some z =>
        obtain ⟨t, n⟩ := z
        simp only
        by_cases hn : n = (c :: r).length
        · exact Ev.ite_pos (by omega) (Ev.some_ (by rw [if_pos hn]))
        · exact Ev.ite_neg (by omega) (Ev.some_ (by rw [if_neg hn]))
    · have e : ((c.toNat : Int) != 34) = true := by rw [bne_iff_ne]; omega
      simp only
      rw [if_neg hq]
      exact jt _ e
def nameOk (l : List UInt8) : Bool := match l with
  | [] => false
  | c :: r => decide ((c :: r).length ≤ 32) && isL c && (c :: r).all isW
theorem just_word (l : List UInt8) : just l 1 = (nameOk l && !decide (l ∈ keyTexts)) := by
  cases l with
  | nil => simp [just, nameOk]
  | cons c r =>
    unfold just
    have hN : nameOk (c :: r) = (decide ((c :: r).length ≤ 32) && isL c && (c :: r).all isW) := rfl
    rw [hN]
    show (decide (c :: r ≠ []) && decide ((tokC c r).2.2 = 0) && decide ((tokC c r).1 = 1) && decide ((tokC c r).2.1 = (c :: r).length)) = _
    have hne : decide (c :: r ≠ []) = true := by simp
    rw [hne, Bool.true_and]
    by_cases h1 : isL c = true
    · unfold tokC
      rw [if_pos h1]
      by_cases ha : (c :: r).all isW = true
      · have hn := (tw_eq_all isW (c :: r)).mpr ha
        rw [hn, List.take_length]
        simp only [h1, ha, Bool.and_true]
        by_cases h32 : 32 < (c :: r).length
        · rw [if_pos h32, decide_eq_false (by omega : ¬ (c :: r).length ≤ 32)]; simp
        · rw [if_neg h32, decide_eq_true (by omega : (c :: r).length ≤ 32)]
          by_cases hk : (c :: r) ∈ keyTexts
          · rw [if_pos hk, decide_eq_true hk]; simp
          · rw [if_neg hk, decide_eq_false hk]; simp
      · have hn : ¬ ((c :: r).takeWhile isW).length = (c :: r).length := fun e => ha ((tw_eq_all isW (c :: r)).mp e)
        simp only [Bool.not_eq_true] at ha
        rw [ha, Bool.and_false, Bool.false_and]
        generalize ((c :: r).takeWhile isW).length = n at *
        split
        · simp
        · split
          · simp
          · rw [decide_eq_false hn]; simp
    · have : ¬ (tokC c r).1 = 1 := by
        unfold tokC
        rw [if_neg h1]
        split
        · split <;> simp
        · split
          · cases quo r with
            | none => simp
            | some z => obtain ⟨t, n⟩ := z; simp
          · split <;> simp
      rw [decide_eq_false this]
      simp only [Bool.not_eq_true] at h1
      rw [h1]; simp
theorem lword (s : ByteArray) (hs : s.size ≤ 1048576) : Ev (fun k => lex_Word.f k s) (nameOk (L s) && !decide (L s ∈ keyTexts)) := by
  unfold lex_Word.f
  have hj := ljust s hs 1
  rw [just_word] at hj
  exact Ev.bind hj (Ev.some_ rfl)
theorem rname_loop (s : ByteArray) (hs : s.size ≤ 1048576) : ∀ (r : List UInt8) (i : Nat), (L s).drop i = r → Ev (fun k => treadleref12_name.l0 k s i) (r.all isW)
  | [], i, h => by
    have := drop_none h; rw [L_length] at this
    exact Ev.step (fun k => treadleref12_name.l0.eq_2 _ _ k) (Ev.ite_neg (by omega) (Ev.some_ rfl))
  | c :: r, i, h => by
    obtain ⟨hb, hi⟩ := bt_drop h
    have ih := rname_loop s hs r (i + 1) (drop_some h).2.2
    refine Ev.step (fun k => treadleref12_name.l0.eq_2 _ _ k) (Ev.ite_pos (by omega) (Ev.ite_pos (by omega) ?_))
    rw [hb, wrap_succ (by omega), List.all_cons]
    refine Ev.bind_now (rletter c) ?_
    by_cases h1 : isL c = true
    · refine Ev.ite_pos h1 (ih.eq ?_)
      unfold isW; rw [h1]; rfl
    refine Ev.ite_neg h1 (Ev.bind_now (rdigit c) ?_)
    by_cases h2 : isD c = true
    · refine Ev.ite_pos h2 (ih.eq ?_)
      have : isW c = true := by unfold isW; rw [h2]; simp
      rw [this]; rfl
    · refine Ev.ite_neg h2 (Ev.some_ ?_)
      have : isW c = false := by unfold isW; simp [h1, h2]
      rw [this]; rfl
theorem rname (s : ByteArray) (hs : s.size ≤ 1048576) : Ev (fun k => treadleref12_name.f k s) (nameOk (L s)) := by
  unfold treadleref12_name.f nameOk
  have hz := size_eq_L s
  have jt : ∀ b : Bool, b = true → Ev (fun k => treadleref12_name.j0 k s b) false := fun b hb =>
    Ev.step (fun k => treadleref12_name.j0.eq_2 _ _ k) (Ev.ite_pos hb (Ev.some_ rfl))
  cases h : L s with
  | nil => rw [h] at hz; exact Ev.ite_pos (by rw [hz]; rfl) (jt _ rfl)
  | cons c r =>
    rw [h] at hz
    have hpos : 0 < s.size := by rw [hz]; simp
    obtain ⟨hb0, hi0⟩ := bt_drop (i := 0) (s := s) (c := c) (r := r) (by simpa using h)
    have hb0 : bt s 0 = (c.toNat : Int) := hb0
    refine Ev.ite_neg (by omega) ?_
    simp only
    by_cases h32 : (c :: r).length ≤ 32
    · refine Ev.ite_neg (by omega) (Ev.ite_pos (by omega) ?_)
      rw [hb0, decide_eq_true h32]
      refine Ev.bind_now (rletter c) ?_
      cases h1 : isL c with
      | false => exact (jt _ rfl).eq (by simp)
      | true =>
        refine Ev.step (fun k => treadleref12_name.j0.eq_2 _ _ k) (Ev.ite_neg (by simp) ?_)
        exact (rname_loop s hs (c :: r) 0 (by simpa using h)).eq (by simp)
    · rw [decide_eq_false h32]
      exact Ev.ite_pos (by omega) (jt _ rfl)
theorem rword (s : ByteArray) (hs : s.size ≤ 1048576) : Ev (fun k => treadleref12_Word.f k s) (nameOk (L s) && !decide (L s ∈ keyTexts)) := by
  unfold treadleref12_Word.f
  refine Ev.bind (rname s hs) ?_
  cases nameOk (L s) with
  | false => exact Ev.ite_neg (by simp) (Ev.some_ rfl)
  | true => exact Ev.ite_pos rfl (Ev.bind (rkey s) (Ev.some_ rfl))
theorem LexReads (s : ByteArray) (hs : s.size ≤ 1048576) : Ev (fun k => treadlelaw12_LexReads.f k s) true := by
  unfold treadlelaw12_LexReads.f
  refine Ev.bind (lnumber s hs) (Ev.bind (rnumber s hs) (Ev.bind (ltext s hs) (Ev.bind (rtext s hs) ?_)))
  refine Ev.ite_pos rfl (Ev.ite_pos rfl (Ev.ite_pos rfl (Ev.ite_pos rfl ?_)))
  refine Ev.bind (lword s hs) (Ev.bind (rword s hs) (Ev.ite_pos (by simp) ?_))
  exact Ev.bind_now (lkey s) (Ev.bind (rkey s) (Ev.ite_pos (by simp) (Ev.bind awake (Ev.some_ rfl))))
end Go.Proofs.YtflmcglppeehgaaDoor.Pure
