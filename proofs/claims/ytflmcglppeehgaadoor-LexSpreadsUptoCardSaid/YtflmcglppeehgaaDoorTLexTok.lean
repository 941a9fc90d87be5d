import Derived.Test.YtflmcglppeehgaaDoorTLexNum
namespace Go.Proofs.YtflmcglppeehgaaDoor.Pure
open Go.RowKit Go.Proofs.YtflmcglppeehgaaDoor.P Go.Proofs.YtflmcglppeehgaaDoor.Base Go.Proofs.YtflmcglppeehgaaDoorW.PrintWords Go.Proofs.YtflmcglppeehgaaDoorW.PrintLast Go.Proofs.YtflmcglppeehgaaDoorW.PrintMore
set_option linter.unusedVariables false
set_option linter.unusedSimpArgs false
def headL : List UInt8 → Bool
  | [] => false
  | c :: _ => isL c
def tokC (c : UInt8) (r : List UInt8) : Nat × Nat × Nat :=
    if isL c = true then
      if 32 < ((c :: r).takeWhile isW).length then (0, 0, 123) else if (c :: r).take ((c :: r).takeWhile isW).length ∈ keyTexts then (4, ((c :: r).takeWhile isW).length, 0) else (1, ((c :: r).takeWhile isW).length, 0)
    else if isD c = true then
      if (numOk ((c :: r).take ((c :: r).takeWhile isD).length) && !headL ((c :: r).drop ((c :: r).takeWhile isD).length)) = true then (2, ((c :: r).takeWhile isD).length, 0) else (0, 0, 121)
    else if c.toNat = 34 then
      match quo r with
      | none => (0, 0, 122)
      | some (t, n) => (3, n, 0)
    else if sgn (c :: r) = 0 then (0, 0, 120) else (5, sgn (c :: r), 0)
def tok : List UInt8 → Nat × Nat × Nat
  | [] => (0, 0, 120)
  | c :: r => tokC c r
theorem tw_le (p : UInt8 → Bool) (l : List UInt8) : (l.takeWhile p).length ≤ l.length := (List.takeWhile_sublist (p := p) (l := l)).length_le
theorem tw_take (p : UInt8 → Bool) (l : List UInt8) : l.take (l.takeWhile p).length = l.takeWhile p := by
  induction l with
  | nil => rfl
  | cons c r ih =>
    rw [List.takeWhile_cons]
    by_cases h : p c = true
    · simp [h, ih]
    · simp [h]
theorem tw_all (p : UInt8 → Bool) (l : List UInt8) : (l.takeWhile p).all p = true := by
  induction l with
  | nil => rfl
  | cons c r ih =>
    rw [List.takeWhile_cons]
    by_cases h : p c = true
    · rw [if_pos h, List.all_cons, h, ih]; rfl
    · simp [h]
theorem ql_le : ∀ (f : Nat) (l t : List UInt8) (m : Nat), ql f l = some (t, m) → 1 ≤ m ∧ m ≤ l.length
  | 0, l, t, m, h => by cases h
  | f + 1, [], t, m, h => by cases h
  | f + 1, c :: r, t, m, h => by
    unfold ql at h
    split at h
    · injection h with h; injection h with _ h; simp; omega
    · split at h
      · cases h
      · rename_i b n hp
        obtain ⟨p1, p2⟩ := pc_pos hp
        split at h
        · cases h
        · rename_i t' m' hq
          have ih := ql_le f _ t' m' hq
          rw [List.length_drop] at ih
          injection h with h; injection h with _ h; omega
theorem quo_le {r t : List UInt8} {n : Nat} (h : quo r = some (t, n)) : 2 ≤ n ∧ n ≤ r.length + 1 := by
  unfold quo at h
  split at h
  · cases h
  · rename_i t' m' hq
    have := ql_le _ _ _ _ hq
    split at h
    · injection h with h; injection h with _ h; omega
    · cases h
theorem sgn_le (c : UInt8) (r : List UInt8) : sgn (c :: r) ≤ r.length + 1 ∧ sgn (c :: r) ≤ 2 := by
  unfold sgn
  by_cases h : (c :: r).take 2 ∈ twoSigns
  · rw [if_pos h]
    have := two_len _ h
    rw [List.length_take, List.length_cons] at this; omega
  · rw [if_neg h]; simp only; split <;> omega
theorem tok_le (l : List UInt8) : (tok l).2.1 ≤ l.length := by
  cases l with
  | nil => exact Nat.zero_le _
  | cons c r =>
    show (tokC c r).2.1 ≤ _
    have h1 := tw_le isW (c :: r)
    have h2 := tw_le isD (c :: r)
    have h3 := (sgn_le c r).1
    unfold tokC
    split
    · split
      · exact Nat.zero_le _
      · split <;> exact h1
    · split
      · split
        · exact h2
        · exact Nat.zero_le _
      · split
        · cases hq : quo r with
          | none => exact Nat.zero_le _
          | some z => obtain ⟨t, n⟩ := z; have := (quo_le hq).2; exact this
        · split
          · exact Nat.zero_le _
          · exact h3
theorem run_word (s : ByteArray) (hs : s.size ≤ 1048576) : lex_run.f s 0 53 = some (((L s).takeWhile isW).length : Int) := by
  unfold lex_run.f
  rw [if_pos ⟨by omega, by omega, by omega⟩]
  have e1 : fnP 53 = some (fun c => isLetter c || isDigit c) := by unfold fnP; simp
  rw [e1]; rfl
theorem run_digit (s : ByteArray) (hs : s.size ≤ 1048576) : lex_run.f s 0 54 = some (((L s).takeWhile isD).length : Int) := by
  unfold lex_run.f
  rw [if_pos ⟨by omega, by omega, by omega⟩]
  have e1 : fnP 54 = some isDigit := by unfold fnP; simp
  rw [e1]; rfl
def tokI (x : Nat × Nat × Nat) : Int × Int × Int := (x.1, x.2.1, x.2.2)
theorem ltoken (s : ByteArray) (hs : s.size ≤ 1048576) (hne : L s ≠ []) : Ev (fun k => lex_token.f k s) (tokI (tok (L s))) := by
  cases h : L s with
  | nil => exact absurd h hne
  | cons c r =>
    obtain ⟨hb0, hi0⟩ := bt_drop (i := 0) (s := s) (c := c) (r := r) (by simpa using h)
    have hb0 : bt s 0 = (c.toNat : Int) := hb0
    have hsz : s.size = (c :: r).length := by rw [size_eq_L, h]
    unfold lex_token.f
    refine Ev.ite_pos (by omega) ?_
    rw [hb0]
    refine Ev.bind_now (lletter c) ?_
    show Ev _ (tokI (tokC c r))
    unfold tokC
    by_cases h1 : isL c = true
    · refine Ev.ite_pos h1 (Ev.bind_now (run_word s hs) ?_)
      rw [if_pos h1, h]
      have hle := tw_le isW (c :: r)
      have e0 : ∀ n : Nat, L (s.extract 0 (n : Int).toNat) = (c :: r).take n := fun n => by rw [L_extract, h]; simp
      generalize ((c :: r).takeWhile isW).length = n at *
      (try simp only)
      by_cases h2 : 32 < n
      · exact Ev.ite_pos (by omega) (Ev.some_ (by rw [if_pos h2]; rfl))
      refine Ev.ite_neg (by omega) (Ev.ite_pos (by omega) (Ev.ite_pos (by omega) (Ev.bind_now (lkey _) ?_)))
      rw [e0, if_neg h2]
      by_cases h3 : (c :: r).take n ∈ keyTexts
      · exact Ev.ite_pos (decide_eq_true h3) (Ev.some_ (by rw [if_pos h3]; rfl))
      · exact Ev.ite_neg (by rw [decide_eq_false h3]; simp) (Ev.some_ (by rw [if_neg h3]; rfl))
    refine Ev.ite_neg h1 (Ev.bind_now (ldigit c) ?_)
    rw [if_neg h1]
    by_cases h2 : isD c = true
    · refine Ev.ite_pos h2 (Ev.bind_now (run_digit s hs) ?_)
      rw [if_pos h2, h]
      have hle := tw_le isD (c :: r)
      have hall := tw_all isD (c :: r)
      have htk := tw_take isD (c :: r)
      have hpos : 1 ≤ ((c :: r).takeWhile isD).length := by rw [List.takeWhile_cons, h2]; simp
      rw [← htk] at hall
      clear htk
      generalize ((c :: r).takeWhile isD).length = n at *
      have e0 : L (s.extract 0 (n : Int).toNat) = (c :: r).take n := by rw [L_extract, h]; simp
      have hsz0 : (s.extract 0 (n : Int).toNat).size ≤ 1048576 := by rw [size_eq_L, e0, List.length_take]; omega
      have hne0 : L (s.extract 0 (n : Int).toNat) ≠ [] := by rw [e0]; cases n with | zero => omega | succ n => simp
      obtain ⟨v, hw, _⟩ := lwhole (s.extract 0 (n : Int).toNat) hsz0 (by rw [e0]; exact hall) hne0
      rw [e0] at hw
      (try simp only)
      refine Ev.ite_pos (by omega) (Ev.ite_pos (by omega) (Ev.bind_now hw ?_))
      have hj : ∀ b : Bool, b = !(numOk ((c :: r).take n) && !headL ((c :: r).drop n)) → Ev (fun k => lex_token.j0 k n b) (tokI (if (numOk ((c :: r).take n) && !headL ((c :: r).drop n)) = true then (2, n, 0) else (0, 0, 121))) := fun b hb => by
        refine Ev.step (fun k => lex_token.j0.eq_2 _ _ k) ?_
        cases hq : (numOk ((c :: r).take n) && !headL ((c :: r).drop n)) with
        | true => exact Ev.ite_neg (by rw [hb, hq]; simp) (Ev.some_ rfl)
        | false => exact Ev.ite_pos (by rw [hb, hq]; rfl) (Ev.some_ rfl)
      cases hn : numOk ((c :: r).take n) with
      | false =>
        refine Ev.ite_neg (by simp) ?_
        rw [hn] at hj; exact hj _ (by simp)
      | true =>
        rw [hn] at hj
        refine Ev.ite_pos rfl ?_
        cases hd : (c :: r).drop n with
        | nil =>
          have := drop_none hd
          rw [hd] at hj
          exact Ev.ite_neg (by omega) (hj _ (by simp [headL]))
        | cons d t =>
          obtain ⟨hbd, hid⟩ := bt_drop (s := s) (i := n) (c := d) (r := t) (by rw [h]; exact hd)
          rw [hd] at hj
          refine Ev.ite_pos (by omega) ?_
          rw [hbd]
          exact Ev.bind_now (lletter d) (hj _ (by simp [headL]))
    refine Ev.ite_neg h2 ?_
    rw [if_neg h2]
    by_cases h3 : c.toNat = 34
    · refine Ev.ite_pos (by omega) ?_
      rw [if_pos h3]
      have hq := lquoted s hs
      rw [h] at hq
      simp only [if_pos h3] at hq
      refine Ev.bind hq ?_
      cases hx : quo r with
      | none => exact Ev.ite_pos rfl (Ev.some_ rfl)
      | some z =>
        obtain ⟨t, n⟩ := z
        have := quo_le hx
        exact Ev.ite_neg (by simp only; omega) (Ev.some_ rfl)
    · refine Ev.ite_neg (by omega) ?_
      rw [if_neg h3]
      refine Ev.bind_now (lsign s (by rw [h]; simp)) ?_
      rw [h]
      by_cases h4 : sgn (c :: r) = 0
      · exact Ev.ite_pos (by omega) (Ev.some_ (by rw [if_pos h4]; rfl))
      · exact Ev.ite_neg (by omega) (Ev.some_ (by rw [if_neg h4]; rfl))
def tokR (i : Nat) (x : Nat × Nat × Nat) : Int × Int × Int × Int := if x.2.2 = 0 then (x.1, i, ((i + x.2.1 : Nat) : Int), 0) else (0, i, 0, x.2.2)
theorem rword_loop (s : ByteArray) (hs : s.size ≤ 1048576) (at_ : Nat) (R : Int × Int × Int × Int) : ∀ (r : List UInt8) (i : Nat), (L s).drop i = r →
    Ev (fun k => treadleref12_token.j1 k s at_ ((i + (r.takeWhile isW).length : Nat) : Int)) R → Ev (fun k => treadleref12_token.l0 k s at_ i) R
  | [], i, h, hR => by
    have := drop_none h; rw [L_length] at this
    exact Ev.step (fun k => treadleref12_token.l0.eq_2 _ _ _ k) (Ev.ite_neg (by omega) hR)
  | c :: r, i, h, hR => by
    obtain ⟨hb, hi⟩ := bt_drop h
    have ih := rword_loop s hs at_ R r (i + 1) (drop_some h).2.2
    refine Ev.step (fun k => treadleref12_token.l0.eq_2 _ _ _ k) (Ev.ite_pos (by omega) (Ev.ite_pos (by omega) ?_))
    rw [hb, wrap_succ (by omega)]
    rw [List.takeWhile_cons] at hR
    refine Ev.bind_now (rletter c) ?_
    by_cases h1 : isL c = true
    · refine Ev.ite_pos h1 (ih ?_)
      have : isW c = true := by unfold isW; rw [h1]; rfl
      rw [if_pos this, List.length_cons] at hR
      rw [show i + 1 + (r.takeWhile isW).length = i + ((r.takeWhile isW).length + 1) by omega]; exact hR
    refine Ev.ite_neg h1 (Ev.bind_now (rdigit c) ?_)
    by_cases h2 : isD c = true
    · refine Ev.ite_pos h2 (ih ?_)
      have : isW c = true := by unfold isW; rw [h2]; simp
      rw [if_pos this, List.length_cons] at hR
      rw [show i + 1 + (r.takeWhile isW).length = i + ((r.takeWhile isW).length + 1) by omega]; exact hR
    · refine Ev.ite_neg h2 ?_
      have : ¬ isW c = true := by unfold isW; simp [h1, h2]
      rw [if_neg this] at hR; exact hR
theorem rdig_loop (s : ByteArray) (hs : s.size ≤ 1048576) (at_ : Nat) (R : Int × Int × Int × Int) : ∀ (r : List UInt8) (i : Nat), (L s).drop i = r →
    Ev (fun k => treadleref12_token.j3 k s at_ ((i + (r.takeWhile isD).length : Nat) : Int)) R → Ev (fun k => treadleref12_token.l1 k s at_ i) R
  | [], i, h, hR => by
    have := drop_none h; rw [L_length] at this
    exact Ev.step (fun k => treadleref12_token.l1.eq_2 _ _ _ k) (Ev.ite_neg (by omega) hR)
  | c :: r, i, h, hR => by
    obtain ⟨hb, hi⟩ := bt_drop h
    have ih := rdig_loop s hs at_ R r (i + 1) (drop_some h).2.2
    refine Ev.step (fun k => treadleref12_token.l1.eq_2 _ _ _ k) (Ev.ite_pos (by omega) (Ev.ite_pos (by omega) ?_))
    rw [hb, wrap_succ (by omega)]
    rw [List.takeWhile_cons] at hR
    refine Ev.bind_now (rdigit c) ?_
    by_cases h2 : isD c = true
    · refine Ev.ite_pos h2 (ih ?_)
      rw [if_pos h2, List.length_cons] at hR
      rw [show i + 1 + (r.takeWhile isD).length = i + ((r.takeWhile isD).length + 1) by omega]; exact hR
    · refine Ev.ite_neg h2 ?_
      rw [if_neg h2] at hR; exact hR
theorem sub_id {a n : Nat} (h : n ≤ 1048576) : wrap64 (((a + n : Nat) : Int) - (a : Int)) = (n : Int) := by rw [wrap_id (by omega) (by omega)]; omega
theorem rtoken (s : ByteArray) (hs : s.size ≤ 1048576) (i : Nat) (hi : i < s.size) : Ev (fun k => treadleref12_token.f k s i) (tokR i (tok ((L s).drop i))) := by
  cases h : (L s).drop i with
  | nil => have := drop_none h; rw [L_length] at this; omega
  | cons c r =>
    obtain ⟨hb, _⟩ := bt_drop h
    have hlen : s.size - i = (c :: r).length := by rw [← h, List.length_drop, L_length]
    have ei : ((i : Int)).toNat = i := by omega
    unfold treadleref12_token.f
    refine Ev.ite_neg (by omega) (Ev.ite_pos (by omega) (Ev.ite_pos (by omega) ?_))
    rw [hb]
    refine Ev.bind_now (rletter c) ?_
    show Ev _ (tokR i (tokC c r))
    unfold tokC
    by_cases h1 : isL c = true
    · refine Ev.ite_pos h1 (rword_loop s hs i _ (c :: r) i h ?_)
      rw [if_pos h1]
      have hle := tw_le isW (c :: r)
      generalize ((c :: r).takeWhile isW).length = n at *
      have en : (((i + n : Nat) : Int)).toNat = i + n := by omega
      have e0 : L (s.extract i (i + n)) = (c :: r).take n := by rw [L_extract, h, show i + n - i = n by omega]
      refine Ev.step (fun k => treadleref12_token.j1.eq_2 _ _ _ k) ?_
      (try simp only)
      rw [sub_id (by omega)]
      by_cases h2 : 32 < n
      · exact Ev.ite_pos (by omega) (Ev.some_ (by rw [if_pos h2]; rfl))
      refine Ev.ite_neg (by omega) (Ev.ite_pos (by omega) (Ev.ite_pos (by omega) (Ev.ite_pos (by omega) ?_)))
      rw [ei, en]
      refine Ev.bind (rkey _) ?_
      rw [e0, if_neg h2]
      by_cases h3 : (c :: r).take n ∈ keyTexts
      · exact Ev.ite_pos (decide_eq_true h3) (Ev.some_ (by rw [if_pos h3]; rfl))
      · exact Ev.ite_neg (by rw [decide_eq_false h3]; simp) (Ev.some_ (by rw [if_neg h3]; rfl))
    refine Ev.ite_neg h1 (Ev.bind_now (rdigit c) ?_)
    rw [if_neg h1]
    by_cases h2 : isD c = true
    · refine Ev.ite_pos h2 (rdig_loop s hs i _ (c :: r) i h ?_)
      rw [if_pos h2]
      have hle := tw_le isD (c :: r)
      generalize ((c :: r).takeWhile isD).length = n at *
      have en : (((i + n : Nat) : Int)).toNat = i + n := by omega
      have e0 : L (s.extract i (i + n)) = (c :: r).take n := by rw [L_extract, h, show i + n - i = n by omega]
      have hsz0 : (s.extract i (i + n)).size ≤ 1048576 := by rw [size_eq_L, e0, List.length_take]; omega
      have hnum := rnumber (s.extract i (i + n)) hsz0
      rw [e0] at hnum
      refine Ev.step (fun k => treadleref12_token.j3.eq_2 _ _ _ k) ?_
      (try simp only)
      refine Ev.ite_pos (by omega) (Ev.ite_pos (by omega) (Ev.ite_pos (by omega) ?_))
      rw [ei, en]
      refine Ev.bind hnum ?_
      have hj : ∀ b : Bool, b = !(numOk ((c :: r).take n) && !headL ((c :: r).drop n)) → Ev (fun k => treadleref12_token.j4 k i ((i + n : Nat) : Int) b) (tokR i (if (numOk ((c :: r).take n) && !headL ((c :: r).drop n)) = true then (2, n, 0) else (0, 0, 121))) := fun b hb => by
        refine Ev.step (fun k => treadleref12_token.j4.eq_2 _ _ _ k) ?_
        cases hq : (numOk ((c :: r).take n) && !headL ((c :: r).drop n)) with
        | true => exact Ev.ite_neg (by rw [hb, hq]; simp) (Ev.some_ rfl)
        | false => exact Ev.ite_pos (by rw [hb, hq]; rfl) (Ev.some_ rfl)
      unfold numR
      cases hn : numOk ((c :: r).take n) with
      | false =>
        refine Ev.ite_neg (by simp) ?_
        rw [hn] at hj; exact hj _ (by simp)
      | true =>
        rw [hn] at hj
        refine Ev.ite_pos rfl ?_
        cases hd : (c :: r).drop n with
        | nil =>
          have := drop_none hd
          rw [hd] at hj
          exact Ev.ite_neg (by omega) (hj _ (by simp [headL]))
        | cons d t =>
          obtain ⟨hbd, hid⟩ := bt_drop (s := s) (i := i + n) (c := d) (r := t) (by rw [← List.drop_drop, h]; exact hd)
          rw [hd] at hj
          refine Ev.ite_pos (by omega) (Ev.ite_pos (by omega) ?_)
          rw [hbd]
          exact Ev.bind_now (rletter d) (hj _ (by simp [headL]))
    refine Ev.ite_neg h2 ?_
    rw [if_neg h2]
    by_cases h3 : c.toNat = 34
    · refine Ev.ite_pos (by omega) ?_
      rw [if_pos h3]
      refine Ev.bind (rquoted s hs i c r h) ?_
      cases hx : quo r with
      | none => exact Ev.ite_pos (by simp) (Ev.some_ rfl)
      | some z =>
        obtain ⟨t, n⟩ := z
        exact Ev.ite_neg (by simp only; omega) (Ev.some_ rfl)
    · refine Ev.ite_neg (by omega) ?_
      rw [if_neg h3]
      refine Ev.bind (rsign s hs i c r h) ?_
      have hs2 := (sgn_le c r).2
      by_cases h4 : sgn (c :: r) = 0
      · exact Ev.ite_pos (by omega) (Ev.some_ (by rw [if_pos h4]; rfl))
      · refine Ev.ite_neg (by omega) (Ev.some_ ?_)
        rw [if_neg h4, wrap_id (by omega) (by omega)]
        unfold tokR
        rw [if_pos rfl]
        simp
def nxt (l : List UInt8) (i : Nat) : Int × Int × Int × Int :=
  let g := i + gapL false (l.drop i)
  if g = l.length then (0, g, g, 0) else tokR g (tok (l.drop g))
def nxtI (s : ByteArray) (at_ : Int) : Int × Int × Int × Int :=
  if s.size > 65536 then (0, 0, 0, 3) else if at_ < 0 ∨ at_ > s.size then (0, 0, 0, 1) else nxt (L s) at_.toNat
theorem gap_le (s : ByteArray) (i : Nat) (hi : i ≤ s.size) : i + gapL false ((L s).drop i) ≤ s.size := by
  have := gapL_le ((L s).drop i) false
  rw [List.length_drop, L_length] at this; omega
theorem nextTok (s : ByteArray) (hs : s.size ≤ 1048576) (g : Nat) (hg : g ≤ s.size) : Ev (fun k => treadleref12_token.f k s g) (if g = (L s).length then (0, (g : Int), (g : Int), 0) else tokR g (tok ((L s).drop g))) := by
  rw [L_length]
  by_cases h : g = s.size
  · rw [if_pos h]
    unfold treadleref12_token.f
    exact Ev.ite_pos (by omega) (Ev.some_ rfl)
  · rw [if_neg h]; exact rtoken s hs g (by omega)
theorem rnext (s : ByteArray) (hs : s.size ≤ 1048576) (a : Int) : Ev (fun k => treadleref12_Next.f k s a) (nxtI s a) := by
  unfold treadleref12_Next.f nxtI
  by_cases h1 : s.size > 65536
  · exact Ev.ite_pos (by omega) (Ev.some_ (by rw [if_pos h1]))
  refine Ev.ite_neg (by omega) ?_
  rw [if_neg h1]
  have jt : ∀ b : Bool, b = true → Ev (fun k => treadleref12_Next.j0 k s a b) (0, 0, 0, 1) := fun b hb =>
    Ev.step (fun k => treadleref12_Next.j0.eq_2 _ _ _ k) (Ev.ite_pos hb (Ev.some_ rfl))
  by_cases h2 : a < 0
  · refine Ev.ite_pos h2 ?_
    rw [if_pos (Or.inl h2)]; exact jt _ rfl
  refine Ev.ite_neg h2 ?_
  by_cases h3 : a > s.size
  · rw [if_pos (Or.inr h3)]; exact jt _ (decide_eq_true h3)
  rw [if_neg (by omega), decide_eq_false h3]
  refine Ev.step (fun k => treadleref12_Next.j0.eq_2 _ _ _ k) (Ev.ite_neg (by simp) ?_)
  obtain ⟨i, rfl⟩ : ∃ i : Nat, a = (i : Int) := ⟨a.toNat, by omega⟩
  refine Ev.bind (rgap s hs i) (Ev.bind (nextTok s hs _ (gap_le s i (by omega))) (Ev.some_ ?_))
  simp only [nxt, Int.toNat_natCast]
theorem lnext (s : ByteArray) (hs : s.size ≤ 1048576) (a : Int) : Ev (fun k => lex_Next.f k s a) (nxtI s a) := by
  unfold lex_Next.f nxtI
  by_cases h1 : s.size > 65536
  · exact Ev.ite_pos (by omega) (Ev.some_ (by rw [if_pos h1]))
  refine Ev.ite_neg (by omega) ?_
  rw [if_neg h1]
  by_cases h2 : a < 0
  · exact Ev.ite_pos h2 (Ev.some_ (by rw [if_pos (Or.inl h2)]))
  refine Ev.ite_neg h2 ?_
  by_cases h3 : a > s.size
  · exact Ev.ite_pos h3 (Ev.some_ (by rw [if_pos (Or.inr h3)]))
  refine Ev.ite_neg h3 ?_
  rw [if_neg (by omega)]
  obtain ⟨i, rfl⟩ : ∃ i : Nat, a = (i : Int) := ⟨a.toNat, by omega⟩
  refine Ev.bind (lgap s hs i (by omega)) ?_
  simp only [nxt, Int.toNat_natCast]
  have hg := gap_le s i (by omega)
  generalize i + gapL false ((L s).drop i) = g at *
  rw [L_length]
  by_cases h4 : g = s.size
  · exact Ev.ite_pos (by omega) (Ev.some_ (by rw [if_pos h4]))
  refine Ev.ite_neg (by omega) (Ev.ite_pos (by omega) (Ev.ite_pos (by omega) ?_))
  rw [if_neg h4]
  have eg : ((g : Int)).toNat = g := by omega
  have e0 : L (s.extract g s.size) = (L s).drop g := by rw [L_extract, List.take_of_length_le]; rw [List.length_drop, L_length]; omega
  have hsz0 : (s.extract g s.size).size ≤ 1048576 := by rw [size_eq_L, e0, List.length_drop, L_length]; omega
  (try rw [eg])
  have ht := ltoken (s.extract g s.size) hsz0 (by rw [e0]; intro hx; have := drop_none hx; rw [L_length] at this; omega)
  rw [e0] at ht
  refine Ev.bind ht ?_
  have hle : (tok ((L s).drop g)).2.1 ≤ 4000000 := by
    have := tok_le ((L s).drop g)
    rw [List.length_drop, L_length] at this; omega
  unfold tokI tokR
  generalize tok ((L s).drop g) = x at *
  obtain ⟨x1, x2, x3⟩ := x
  simp only at hle ⊢
  by_cases h5 : x3 = 0
  · refine Ev.ite_pos (by omega) (Ev.some_ ?_)
    rw [if_pos h5, wrap_id (by omega) (by omega)]
    simp
  · exact Ev.ite_neg (by omega) (Ev.some_ (by rw [if_neg h5]))
end Go.Proofs.YtflmcglppeehgaaDoor.Pure
