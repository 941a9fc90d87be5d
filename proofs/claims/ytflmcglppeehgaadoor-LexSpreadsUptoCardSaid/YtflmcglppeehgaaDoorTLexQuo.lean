import Derived.Laws.BytesArg
import Derived.Test.YtflmcglppeehgaaDoorTLexGap
namespace Go.Proofs.YtflmcglppeehgaaDoor.Pure
open Go.RowKit Go.Proofs.YtflmcglppeehgaaDoor.P Go.Proofs.YtflmcglppeehgaaDoor.Base Go.Proofs.YtflmcglppeehgaaDoorW.PrintWords Go.Proofs.YtflmcglppeehgaaDoorW.PrintLast Go.Proofs.YtflmcglppeehgaaDoorW.PrintMore
set_option linter.unusedVariables false
set_option linter.unusedSimpArgs false
theorem byte_all {p : UInt8 → Bool} (h : (List.range 256).all (fun n => p (UInt8.ofNat n)) = true) (c : UInt8) : p c = true := by
  have := (List.all_eq_true.mp h) c.toNat (List.mem_range.mpr c.toNat_lt)
  simpa using this
def nib (c : UInt8) : Option Nat := if 48 ≤ c.toNat ∧ c.toNat ≤ 57 then some (c.toNat - 48) else if 97 ≤ c.toNat ∧ c.toNat ≤ 102 then some (c.toNat - 87) else none
theorem nib_lt {c : UInt8} {x : Nat} (h : nib c = some x) : x < 16 := by
  unfold nib at h
  split at h
  · injection h; omega
  · split at h
    · injection h; omega
    · cases h
def pc : List UInt8 → Option (UInt8 × Nat)
  | [] => none
  | c :: r =>
    if c.toNat = 92 then
      match r with
      | [] => none
      | d :: r' =>
        if d.toNat = 110 then some (10, 2) else if d.toNat = 116 then some (9, 2) else if d.toNat = 34 ∨ d.toNat = 92 then some (d, 2)
        else if d.toNat = 120 then
          match r' with
          | a :: b :: _ => (match nib a, nib b with
            | some x, some y => some (UInt8.ofNat (16 * x + y), 4)
            | _, _ => none)
          | _ => none
        else none
    else if c.toNat < 32 ∨ 126 < c.toNat ∨ c.toNat = 34 then none else some (c, 1)
def pcI (l : List UInt8) : Int × Int := match pc l with
  | none => (0, 0)
  | some (b, n) => ((b.toNat : Int), (n : Int))
theorem lnib (c : UInt8) : lex_nibble.f (c.toNat : Int) = some (match nib c with | some x => (x : Int) | none => -1) := by
  have := byte_all (p := fun c => decide (lex_nibble.f (c.toNat : Int) = some (match nib c with | some x => (x : Int) | none => -1))) (by decide +kernel) c
  simpa using this
theorem rhalf (c : UInt8) : treadleref12_half.f (c.toNat : Int) = some (match nib c with | some x => (x : Int) | none => 16) := by
  have := byte_all (p := fun c => decide (treadleref12_half.f (c.toNat : Int) = some (match nib c with | some x => (x : Int) | none => 16))) (by decide +kernel) c
  simpa using this
theorem bits_l : ∀ a b : Fin 16, Go.bits .or .i64 (wrap64 ((a.val : Int) * 16)) (b.val : Int) % 256 = ((UInt8.ofNat (16 * a.val + b.val)).toNat : Int) := by decide +kernel
theorem bits_r : ∀ a b : Fin 16, Go.bits .or .u8 (((a.val : Int) * 16) % 256) (b.val : Int) = ((UInt8.ofNat (16 * a.val + b.val)).toNat : Int) := by decide +kernel
theorem lpiece0 (s : ByteArray) (k : Nat) : lex_piece.f (k + 3) s = some (pcI (L s)) := by
  cases h : L s with
  | nil => simp [lex_piece.f, toList_L, h, lex_piece.j0, pcI, pc]
  | cons c r =>
    obtain ⟨hb0, hi0⟩ := bt_drop (i := 0) (s := s) (c := c) (r := r) (by simpa using h)
    have hsz : s.size = r.length + 1 := by rw [size_eq_L, h]; rfl
    have hb0 : bt s 0 = (c.toNat : Int) := hb0
    unfold lex_piece.f
    rw [if_neg (by rw [toList_L, h]; simp), if_pos (by omega), hb0]
    have jt : lex_piece.j0 (k + 3) s true = some (0, 0) := by simp [lex_piece.j0]
    by_cases h1 : c.toNat < 32
    · rw [if_pos (by omega), jt]; simp only [pcI, pc]; rw [if_neg (by omega), if_pos (Or.inl h1)]
    by_cases h2 : 126 < c.toNat
    · rw [if_neg (by omega), if_pos (by omega), jt]; simp only [pcI, pc]; rw [if_neg (by omega), if_pos (Or.inr (Or.inl h2))]
    rw [if_neg (by omega), if_neg (by omega)]
    by_cases h3 : c.toNat = 34
    · have : ((c.toNat : Int) == 34) = true := by simp; omega
      rw [this, jt]; simp only [pcI, pc]; rw [if_neg (by omega), if_pos (Or.inr (Or.inr h3))]
    have e3 : ((c.toNat : Int) == 34) = false := by simp; omega
    rw [e3, lex_piece.j0, if_neg (by simp), if_pos (by omega), hb0]
    by_cases h4 : c.toNat = 92
    rotate_left
    · rw [if_neg (by omega)]; simp only [pcI, pc]; rw [if_neg h4, if_neg (by omega)]; rfl
    rw [if_pos (by omega)]
    cases r with
    | nil => rw [if_pos (by simp at hsz; omega)]; simp [pcI, pc, h4]
    | cons d r =>
      obtain ⟨hb1, hi1⟩ := bt_drop (i := 1) (s := s) (c := d) (r := r) (by simp [h])
      have hb1 : bt s 1 = (d.toNat : Int) := hb1
      simp only [List.length_cons] at hsz
      rw [if_neg (by omega), if_pos (by omega), hb1]
      simp only [pcI, pc]
      rw [if_pos h4]
      by_cases d1 : d.toNat = 110
      · rw [if_pos (by omega), if_pos d1]; rfl
      rw [if_neg (by omega), if_neg d1]
      by_cases d2 : d.toNat = 116
      · rw [if_pos (by omega), if_pos d2]; rfl
      rw [if_neg (by omega), if_neg d2]
      by_cases d3 : d.toNat = 34 ∨ d.toNat = 92
      · rw [if_pos d3]
        have j1t : lex_piece.j1 (k + 2) s (d.toNat : Int) true = some ((d.toNat : Int), 2) := by rw [lex_piece.j1, if_pos rfl, if_pos (by omega), hb1]
        by_cases d4 : d.toNat = 34
        · have : ((d.toNat : Int) == 34) = true := by simp; omega
          rw [if_pos (by omega), this, j1t]; rfl
        · have : ((d.toNat : Int) == 92) = true := by simp; omega
          rw [if_neg (by omega), this, j1t]; rfl
      · rw [if_neg d3]
        have : ((d.toNat : Int) == 92) = false := by simp; omega
        rw [if_neg (by omega), this, lex_piece.j1, if_neg (by simp)]
        have jf : lex_piece.j2 (k + 1) s false = some (0, 0) := by simp [lex_piece.j2]
        by_cases d5 : d.toNat = 120
        · rw [if_pos (by omega), if_pos d5]
          match r, h, hsz with
          | [], h, hsz => rw [if_neg (by simp at hsz; omega), jf]
          | [a], h, hsz => rw [if_neg (by simp at hsz; omega), jf]
          | a :: b :: r, h, hsz =>
            obtain ⟨hb2, hi2⟩ := bt_drop (i := 2) (s := s) (c := a) (r := b :: r) (by simp [h])
            obtain ⟨hb3, hi3⟩ := bt_drop (i := 3) (s := s) (c := b) (r := r) (by simp [h])
            have hb2 : bt s 2 = (a.toNat : Int) := hb2
            have hb3 : bt s 3 = (b.toNat : Int) := hb3
            rw [if_pos (by omega), if_pos (by omega), hb2, lnib]
            simp only [Option.bind_some]
            cases hx : nib a with
            | none => simp only; rw [if_neg (by omega), jf]
            | some x =>
              simp only
              rw [if_pos (by omega), if_pos (by omega), hb3, lnib]
              simp only [Option.bind_some]
              cases hy : nib b with
              | none =>
                have : decide ((-1 : Int) ≥ 0) = false := by decide
                simp only; rw [this, jf]
              | some y =>
                have : decide ((y : Int) ≥ 0) = true := by simp
                simp only
                rw [this, lex_piece.j2, if_pos rfl, if_pos (by omega), hb2, lnib, hx]
                simp only [Option.bind_some]
                rw [if_pos (by omega), hb3, lnib, hy]
                simp only [Option.bind_some]
                have := bits_l ⟨x, nib_lt hx⟩ ⟨y, nib_lt hy⟩
                rw [this]; rfl
        · rw [if_neg (by omega), if_neg d5]
theorem lpiece (s : ByteArray) : Ev (fun k => lex_piece.f k s) (pcI (L s)) := ⟨3, fun k hk => by
  obtain ⟨j, rfl⟩ : ∃ j, k = j + 3 := ⟨k - 3, by omega⟩
  exact lpiece0 s j⟩
theorem rpiece0 (s : ByteArray) (hs : s.size ≤ 1048576) (i k : Nat) (hi : i ≤ s.size) : treadleref12_piece.f (k + 3) s i = some (pcI ((L s).drop i)) := by
  have w1 : wrap64 ((i : Int) + 1) = ((i + 1 : Nat) : Int) := wrap_succ (by omega)
  have w2 : wrap64 ((i : Int) + 2) = ((i + 2 : Nat) : Int) := by rw [wrap_id (by omega) (by omega)]; omega
  have w3 : wrap64 ((i : Int) + 3) = ((i + 3 : Nat) : Int) := by rw [wrap_id (by omega) (by omega)]; omega
  cases h : (L s).drop i with
  | nil =>
    have := drop_none h; rw [L_length] at this
    unfold treadleref12_piece.f
    rw [if_pos (by omega)]; rfl
  | cons c r =>
    obtain ⟨hb0, hi0⟩ := bt_drop h
    have hr := (drop_some h).2.2
    have hsz : s.size = i + r.length + 1 := by
      have := congrArg List.length h
      rw [List.length_drop, L_length, List.length_cons] at this; omega
    unfold treadleref12_piece.f
    rw [if_neg (by omega), if_pos (by omega), if_pos (by omega), hb0, w1]
    by_cases h4 : c.toNat = 92
    rotate_left
    · rw [if_neg (by omega)]
      simp only [pcI, pc]; rw [if_neg h4]
      by_cases h1 : c.toNat < 32
      · rw [if_pos (by omega), if_pos (Or.inl h1)]
      by_cases h2 : 126 < c.toNat
      · rw [if_neg (by omega), if_pos (by omega), if_pos (Or.inr (Or.inl h2))]
      by_cases h3 : c.toNat = 34
      · rw [if_neg (by omega), if_neg (by omega), if_pos (by omega), if_pos (Or.inr (Or.inr h3))]
      rw [if_neg (by omega), if_neg (by omega), if_neg (by omega), if_neg (by omega)]; rfl
    rw [if_pos (by omega)]
    cases r with
    | nil => rw [if_pos (by simp at hsz; omega)]; simp [pcI, pc, h4]
    | cons d r =>
      obtain ⟨hb1, hi1⟩ := bt_drop hr
      have hr2 := (drop_some hr).2.2
      simp only [List.length_cons] at hsz
      rw [if_neg (by omega), if_pos (by omega), if_pos (by omega), hb1]
      simp only [pcI, pc]
      rw [if_pos h4]
      by_cases d1 : d.toNat = 110
      · rw [if_pos (by omega), if_pos d1]; rfl
      rw [if_neg (by omega), if_neg d1]
      by_cases d2 : d.toNat = 116
      · rw [if_pos (by omega), if_pos d2]; rfl
      rw [if_neg (by omega), if_neg d2]
      by_cases d3 : d.toNat = 34 ∨ d.toNat = 92
      · rw [if_pos d3]
        have j1t : treadleref12_piece.j0 (k + 3) s i (d.toNat : Int) true = some ((d.toNat : Int), 2) := by
          rw [treadleref12_piece.j0, if_pos rfl, w1, if_pos (by omega), if_pos (by omega), hb1]
        by_cases d4 : d.toNat = 34
        · have : ((d.toNat : Int) == 34) = true := by simp; omega
          rw [if_pos (by omega), this, j1t]; rfl
        · have : ((d.toNat : Int) == 92) = true := by simp; omega
          rw [if_neg (by omega), this, j1t]; rfl
      · rw [if_neg d3]
        have : ((d.toNat : Int) == 92) = false := by simp; omega
        rw [if_neg (by omega), this, treadleref12_piece.j0, if_neg (by simp)]
        have jf : treadleref12_piece.j1 (k + 2) s i false = some (0, 0) := by simp [treadleref12_piece.j1]
        by_cases d5 : d.toNat = 120
        · rw [if_pos (by omega), if_pos d5, w3]
          match r, hr2, hsz with
          | [], hr2, hsz => rw [if_neg (by simp at hsz; omega), jf]
          | [a], hr2, hsz => rw [if_neg (by simp at hsz; omega), jf]
          | a :: b :: r, hr2, hsz =>
            obtain ⟨hb2, hi2⟩ := bt_drop hr2
            obtain ⟨hb3, hi3⟩ := bt_drop (drop_some hr2).2.2
            rw [w2, if_pos (by omega), if_pos (by omega), if_pos (by omega), hb2, rhalf]
            simp only [Option.bind_some]
            cases hx : nib a with
            | none => simp only; rw [if_neg (by omega), jf]
            | some x =>
              have hx16 := nib_lt hx
              simp only
              rw [if_pos (by omega), if_pos (by omega), hb3, rhalf]
              simp only [Option.bind_some]
              cases hy : nib b with
              | none =>
                have : decide ((16 : Int) < 16) = false := by decide
                simp only; rw [this, jf]
              | some y =>
                have hy16 := nib_lt hy
                have : decide ((y : Int) < 16) = true := by simp; omega
                simp only
                rw [this, treadleref12_piece.j1, if_pos rfl, w2, w3, if_pos (by omega), if_pos (by omega), hb2, rhalf, hx]
                simp only [Option.bind_some]
                rw [if_pos (by omega), if_pos (by omega), hb3, rhalf, hy]
                simp only [Option.bind_some]
                have := bits_r ⟨x, nib_lt hx⟩ ⟨y, nib_lt hy⟩
                rw [this]; rfl
        · rw [if_neg (by omega), if_neg d5]
theorem rpiece (s : ByteArray) (hs : s.size ≤ 1048576) (i : Nat) (hi : i ≤ s.size) : Ev (fun k => treadleref12_piece.f k s i) (pcI ((L s).drop i)) := ⟨3, fun k hk => by
  obtain ⟨j, rfl⟩ : ∃ j, k = j + 3 := ⟨k - 3, by omega⟩
  exact rpiece0 s hs i j hi⟩
def ql : Nat → List UInt8 → Option (List UInt8 × Nat)
  | 0, _ => none
  | f + 1, [] => none
  | f + 1, c :: r => if c.toNat = 34 then some ([], 1) else
      match pc (c :: r) with
      | none => none
      | some (b, n) => match ql f ((c :: r).drop n) with
        | none => none
        | some (t, m) => some (b :: t, n + m)
theorem pc_pos {l : List UInt8} {b : UInt8} {n : Nat} (h : pc l = some (b, n)) : 1 ≤ n ∧ n ≤ l.length := by
  unfold pc at h
  split at h
  · cases h
  · split at h
    · split at h
      · cases h
      · split at h
        · injection h with h; injection h with h1 h2; simp; omega
        · split at h
          · injection h with h; injection h with h1 h2; simp; omega
          · split at h
            · injection h with h; injection h with h1 h2; simp; omega
            · split at h
              · split at h
                · split at h
                  · injection h with h; injection h with h1 h2; simp; omega
                  · cases h
                · cases h
              · cases h
    · split at h
      · cases h
      · injection h with h; injection h with h1 h2; simp; omega
theorem ql_fuel : ∀ (f g : Nat) (l : List UInt8), l.length < f → l.length < g → ql f l = ql g l
  | 0, _, l, h, _ => by omega
  | f + 1, 0, l, _, h => by omega
  | f + 1, g + 1, [], _, _ => rfl
  | f + 1, g + 1, c :: r, h1, h2 => by
    unfold ql
    split
    · rfl
    · cases hp : pc (c :: r) with
      | none => rfl
      | some q =>
        obtain ⟨b, n⟩ := q
        obtain ⟨p1, p2⟩ := pc_pos hp
        simp only
        rw [ql_fuel f g _ (by rw [List.length_drop]; simp only [List.length_cons] at *; omega) (by rw [List.length_drop]; simp only [List.length_cons] at *; omega)]
def nums (A : List UInt8) : List Int := A.map (fun b => (b.toNat : Int))
theorem strOfNums_nums (A : List UInt8) : strOfNums (nums A) = mkB A := by
  apply L_inj
  rw [L_mkB]
  show (strOfNums (nums A)).data.toList = A
  rw [strOfNums_data]
  unfold nums
  rw [List.map_map]
  conv => rhs; rw [← List.map_id A]
  apply List.map_congr_left
  intro c _
  simp
def qI (e : Int) (A : List UInt8) (i : Nat) : Option (List UInt8 × Nat) → ByteArray × Int
  | none => (⟨#[]⟩, e)
  | some (t, m) => if A.length + t.length ≤ 4096 then (mkB (A ++ t), ((i + m : Nat) : Int)) else (⟨#[]⟩, e)
theorem quo_arith {z i n f q : Nat} (h1 : z - i = q) (h2 : n ≤ q) (h3 : 1 ≤ n) (h4 : z - i < f + 1) (h5 : i ≤ z) : z - (i + n) < f ∧ i + n ≤ z := by omega
theorem len_snoc {A : List UInt8} {b : UInt8} {m : Nat} (h1 : A.length < m) : (A ++ [b]).length ≤ m := by rw [List.length_append]; exact h1
theorem drop_len {s : ByteArray} {i f : Nat} (h : s.size - i < f) : ((L s).drop i).length < f := by rw [List.length_drop, L_length]; exact h
theorem lquo_loop (s : ByteArray) (hs : s.size ≤ 1048576) : ∀ (f : Nat) (A : List UInt8) (i : Nat), A.length ≤ 4096 → ((L s).drop i).length < f → i ≤ s.size →
    Ev (fun k => lex_quoted.l0 k s (nums A) i) (qI 0 A i (ql f ((L s).drop i)))
  | 0, A, i, hA, hl, hi => by omega
  | f + 1, A, i, hA, hl, hi => by
    have hz : s.size - i < f + 1 := by rw [List.length_drop, L_length] at hl; exact hl
    clear hl
    refine Ev.step (fun k => lex_quoted.l0.eq_2 _ _ _ k) ?_
    cases h : (L s).drop i with
    | nil =>
      have h1 := drop_none h; rw [L_length] at h1
      refine Ev.ite_neg (by omega) ?_
      refine Ev.step (fun k => lex_quoted.j2.eq_2 _ _ _ _ k) ?_
      exact Ev.ite_neg (by simp) (Ev.ite_pos (by omega) (Ev.some_ (by simp [ql, qI])))
    | cons c r =>
      obtain ⟨hb, hi'⟩ := bt_drop h
      refine Ev.ite_pos (by omega) (Ev.ite_pos (by omega) ?_)
      refine Ev.step (fun k => lex_quoted.j2.eq_2 _ _ _ _ k) ?_
      rw [hb]
      by_cases hq : c.toNat = 34
      · have e : ((c.toNat : Int) != 34) = false := by rw [bne_eq_false_iff_eq]; omega
        refine Ev.ite_neg (by simp [e]) (Ev.ite_neg (by omega) (Ev.some_ ?_))
        rw [strOfNums_nums, wrap_succ (by omega)]
        simp only [ql, hq, if_true, qI, List.append_nil, List.length_nil]
        rw [if_pos (by omega)]
      · have e : ((c.toNat : Int) != 34) = true := by rw [bne_iff_ne]; omega
        refine Ev.ite_pos e (Ev.ite_pos (by omega) (Ev.ite_pos (by omega) ?_))
        have e0 : ((i : Int)).toNat = i := by omega
        have e1 : L (s.extract i s.size) = c :: r := by rw [L_extract, h, List.take_of_length_le]; rw [← h, List.length_drop, L_length]; omega
        rw [e0]
        refine Ev.bind (lpiece _) ?_
        rw [e1]
        unfold ql
        rw [if_neg hq]
        unfold pcI
        cases hp : pc (c :: r) with
        | none => exact Ev.ite_pos rfl (Ev.some_ rfl)
        | some q =>
          obtain ⟨b, n⟩ := q
          obtain ⟨p1, p2⟩ := pc_pos hp
          have hlen := congrArg List.length h
          rw [List.length_drop, L_length] at hlen
          obtain ⟨q2, q3⟩ := quo_arith hlen p2 p1 hz hi
          refine Ev.ite_neg (by simp; omega) ?_
          have hnl : (nums A).length = A.length := by unfold nums; simp
          have ed : (c :: r).drop n = (L s).drop (i + n) := by rw [← h, List.drop_drop]
          by_cases hA2 : A.length = 4096
          · refine Ev.ite_pos (by omega) (Ev.some_ ?_)
            simp only [ed]
            cases ql f ((L s).drop (i + n)) with
            | none => rfl
            | some z => obtain ⟨t, m⟩ := z; simp only [qI, List.length_cons]; rw [if_neg (by omega)]
          · have q4 : (A ++ [b]).length ≤ 4096 := len_snoc (by omega)
            refine Ev.ite_neg (by omega) (Ev.ite_pos (by omega) ?_)
            have e2 : nums A ++ [(b.toNat : Int)] = nums (A ++ [b]) := by unfold nums; simp
            have e3 : wrap64 ((i : Int) + (n : Int)) = ((i + n : Nat) : Int) := by rw [wrap_id (by omega) (by omega)]; omega
            simp only
            rw [e2, e3]
            refine (lquo_loop s hs f (A ++ [b]) (i + n) q4 (drop_len q2) q3).eq ?_
            rw [ed]
            cases ql f ((L s).drop (i + n)) with
            | none => rfl
            | some z =>
              obtain ⟨t, m⟩ := z
              simp only [qI, List.length_append, List.length_cons, List.length_nil, List.append_assoc, List.singleton_append]
              by_cases hh : A.length + (t.length + 1) ≤ 4096
              · rw [if_pos (by omega), if_pos hh, Nat.add_assoc]
              · rw [if_neg (by omega), if_neg hh]
theorem rquo_loop (s : ByteArray) (hs : s.size ≤ 1048576) : ∀ (f : Nat) (A : List UInt8) (i : Nat), A.length ≤ i → ((L s).drop i).length < f → i ≤ s.size →
    Ev (fun k => treadleref12_quoted.l0 k s (nums A) i) (qI (-1) A i (ql f ((L s).drop i)))
  | 0, A, i, hA, hl, hi => by omega
  | f + 1, A, i, hA, hl, hi => by
    have hz : s.size - i < f + 1 := by rw [List.length_drop, L_length] at hl; exact hl
    clear hl
    have hnl : (nums A).length = A.length := by unfold nums; simp
    refine Ev.step (fun k => treadleref12_quoted.l0.eq_2 _ _ _ k) ?_
    cases h : (L s).drop i with
    | nil =>
      have h1 := drop_none h; rw [L_length] at h1
      refine Ev.ite_neg (by omega) ?_
      refine Ev.step (fun k => treadleref12_quoted.j1.eq_2 _ _ _ _ k) ?_
      refine Ev.ite_neg (by simp) ?_
      refine Ev.bind (rpiece s hs i (by omega)) ?_
      rw [h]
      exact Ev.ite_pos rfl (Ev.some_ rfl)
    | cons c r =>
      obtain ⟨hb, hi'⟩ := bt_drop h
      refine Ev.ite_pos (by omega) (Ev.ite_pos (by omega) ?_)
      refine Ev.step (fun k => treadleref12_quoted.j1.eq_2 _ _ _ _ k) ?_
      rw [hb]
      by_cases hq : c.toNat = 34
      · have e : ((c.toNat : Int) == 34) = true := by simp; omega
        refine Ev.ite_pos e ?_
        by_cases hA2 : A.length ≤ 4096
        · refine Ev.ite_neg (by omega) (Ev.some_ ?_)
          rw [strOfNums_nums, wrap_succ (by omega)]
          simp only [ql, hq, if_true, qI, List.append_nil, List.length_nil]
          rw [if_pos (by omega)]
        · refine Ev.ite_pos (by omega) (Ev.some_ ?_)
          simp only [ql, hq, if_true, qI, List.append_nil, List.length_nil]
          rw [if_neg (by omega)]
      · have e : ((c.toNat : Int) == 34) = false := by simp; omega
        refine Ev.ite_neg (by simp [e]) ?_
        refine Ev.bind (rpiece s hs i (by omega)) ?_
        rw [h]
        unfold ql
        rw [if_neg hq]
        unfold pcI
        cases hp : pc (c :: r) with
        | none => exact Ev.ite_pos rfl (Ev.some_ rfl)
        | some q =>
          obtain ⟨b, n⟩ := q
          obtain ⟨p1, p2⟩ := pc_pos hp
          have hlen := congrArg List.length h
          rw [List.length_drop, L_length] at hlen
          obtain ⟨q2, q3⟩ := quo_arith hlen p2 p1 hz hi
          have q4 : (A ++ [b]).length ≤ i + n := len_snoc (by omega)
          refine Ev.ite_neg (by simp; omega) (Ev.ite_pos (by omega) ?_)
          have ed : (c :: r).drop n = (L s).drop (i + n) := by rw [← h, List.drop_drop]
          have e2 : nums A ++ [(b.toNat : Int)] = nums (A ++ [b]) := by unfold nums; simp
          have e3 : wrap64 ((i : Int) + (n : Int)) = ((i + n : Nat) : Int) := by rw [wrap_id (by omega) (by omega)]; omega
          simp only
          rw [e2, e3]
          refine (rquo_loop s hs f (A ++ [b]) (i + n) q4 (drop_len q2) q3).eq ?_
          rw [ed]
          cases ql f ((L s).drop (i + n)) with
          | none => rfl
          | some z =>
            obtain ⟨t, m⟩ := z
            simp only [qI, List.length_append, List.length_cons, List.length_nil, List.append_assoc, List.singleton_append]
            by_cases hh : A.length + (t.length + 1) ≤ 4096
            · rw [if_pos (by omega), if_pos hh, Nat.add_assoc]
            · rw [if_neg (by omega), if_neg hh]
def quo (r : List UInt8) : Option (List UInt8 × Nat) := match ql (r.length + 1) r with
  | none => none
  | some (t, m) => if t.length ≤ 4096 then some (t, m + 1) else none
theorem lquoted (s : ByteArray) (hs : s.size ≤ 1048576) : Ev (fun k => lex_quoted.f k s) (match L s with
    | [] => (⟨#[]⟩, 0)
    | c :: r => if c.toNat = 34 then (match quo r with | none => (⟨#[]⟩, 0) | some (t, n) => (mkB t, (n : Int))) else (⟨#[]⟩, 0)) := by
  unfold lex_quoted.f
  cases h : L s with
  | nil =>
    refine Ev.ite_pos (by rw [toList_L, h]) (Ev.step (fun k => lex_quoted.j0.eq_2 _ _ k) (Ev.ite_pos rfl (Ev.some_ rfl)))
  | cons c r =>
    obtain ⟨hb0, hi0⟩ := bt_drop (i := 0) (s := s) (c := c) (r := r) (by simpa using h)
    have hb0 : bt s 0 = (c.toNat : Int) := hb0
    have hr : (L s).drop 1 = r := by rw [h]; rfl
    refine Ev.ite_neg (by rw [toList_L, h]; simp) (Ev.ite_pos (by omega) (Ev.step (fun k => lex_quoted.j0.eq_2 _ _ k) ?_))
    rw [hb0]
    by_cases hq : c.toNat = 34
    · have e : ((c.toNat : Int) != 34) = false := by rw [bne_eq_false_iff_eq]; omega
      refine Ev.ite_neg (by simp [e]) ((lquo_loop s hs (r.length + 1) [] 1 (by simp) (by rw [hr]; omega) (by omega)).eq ?_)
      rw [hr]
      simp only [if_pos hq]
      unfold quo
      cases ql (r.length + 1) r with
      | none => rfl
      | some z =>
        obtain ⟨t, m⟩ := z
        simp only [qI, List.length_nil, List.nil_append, Nat.zero_add]
        by_cases ht : t.length ≤ 4096
        · simp only [if_pos ht]; rw [Nat.add_comm]
        · simp only [if_neg ht]
    · have e : ((c.toNat : Int) != 34) = true := by rw [bne_iff_ne]; omega
      exact Ev.ite_pos e (Ev.some_ (by simp [hq]))
theorem rquoted (s : ByteArray) (hs : s.size ≤ 1048576) (i : Nat) (c : UInt8) (r : List UInt8) (h : (L s).drop i = c :: r) : Ev (fun k => treadleref12_quoted.f k s i) (match quo r with | none => (⟨#[]⟩, -1) | some (t, n) => (mkB t, ((i + n : Nat) : Int))) := by
  unfold treadleref12_quoted.f
  obtain ⟨hb0, hi0⟩ := bt_drop h
  have hr := (drop_some h).2.2
  rw [wrap_succ (by omega)]
  refine (rquo_loop s hs (r.length + 1) [] (i + 1) (by simp) (by rw [hr]; omega) (by omega)).eq ?_
  rw [hr]
  unfold quo
  cases ql (r.length + 1) r with
  | none => rfl
  | some z =>
    obtain ⟨t, m⟩ := z
    simp only [qI, List.length_nil, List.nil_append, Nat.zero_add]
    by_cases ht : t.length ≤ 4096
    · simp only [if_pos ht]
      have : i + 1 + m = i + (m + 1) := by omega
      rw [this]
    · simp only [if_neg ht]
end Go.Proofs.YtflmcglppeehgaaDoor.Pure
