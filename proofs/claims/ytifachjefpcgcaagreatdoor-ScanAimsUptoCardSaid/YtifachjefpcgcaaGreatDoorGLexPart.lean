import Derived.Laws.BytesArg
import Derived.Lib.ParseIntB
import Derived.Lib.ItoaNum
import Derived.Test.YtifachjefpcgcaaGreatDoorGBase
import Derived.Test.YtifachjefpcgcaaGreatDoorGPD
namespace Go.Proofs.YtifachjefpcgcaaGreatDoor.Pure
open Go.RowKit Go.Proofs.YtifachjefpcgcaaGreatDoor.P Go.Proofs.YtifachjefpcgcaaGreatDoor.Base Go.Proofs.YtifachjefpcgcaaGreatDoorW.PrintWords Go.Proofs.YtifachjefpcgcaaGreatDoorW.PrintLast Go.Proofs.YtifachjefpcgcaaGreatDoorW.PrintMore
set_option linter.unusedVariables false
set_option linter.unusedSimpArgs false
def isSp (c : UInt8) : Bool := decide (c.toNat = 32) || decide (c.toNat = 9) || decide (c.toNat = 10) || decide (c.toNat = 13)
def isSl (c : UInt8) : Bool := decide (c.toNat = 47)
def isNl (c : UInt8) : Bool := decide (c.toNat = 10)
def headSl : List UInt8 → Bool
 | [] => false
 | d :: _ => isSl d
def gapL : Bool → List UInt8 → Nat
 | _, [] => 0
 | true, c :: r => if isNl c = true then 1 + gapL false r else 1 + gapL true r
 | false, c :: r => if isSp c = true then 1 + gapL false r else if (isSl c && headSl r) = true then 1 + gapL true r else 0
theorem gapL_le : ∀ (l : List UInt8) (b : Bool), gapL b l ≤ l.length
 | [], b => by cases b <;> simp [gapL]
 | c :: r, true => by
  have := gapL_le r false; have := gapL_le r true
  unfold gapL; simp only [List.length_cons]; split <;> omega
 | c :: r, false => by
  have := gapL_le r false; have := gapL_le r true
  unfold gapL; simp only [List.length_cons]; split
  ·omega
  ·split <;> omega
theorem gapL_true_take (l : List UInt8) : gapL true l = (l.takeWhile (fun c => !isNl c)).length + gapL false (l.drop (l.takeWhile (fun c => !isNl c)).length) := by
 induction l with
 | nil => simp [gapL]
 | cons c r ih =>
  by_cases h : isNl c = true
  ·have h2 : isSp c = true := by unfold isNl at h; unfold isSp; simp at h; simp [h]
   simp [gapL, h, h2]
  ·simp only [Bool.not_eq_true] at h
   simp only [gapL, h]
   rw [List.takeWhile_cons, h]
   simp only [Bool.not_false, if_true, List.length_cons, List.drop_succ_cons, Bool.false_eq_true, if_false]
   omega
theorem gapL_after : ∀ (l : List UInt8) (b : Bool), gapL false (l.drop (gapL b l)) = 0
 | [], b => by cases b <;> simp [gapL]
 | c :: r, true => by
  by_cases hc : isNl c = true
  ·simp only [gapL, hc, if_true]; rw [Nat.add_comm, List.drop_succ_cons]; exact gapL_after r false
  ·simp only [gapL, hc, if_false, Bool.false_eq_true]; rw [Nat.add_comm, List.drop_succ_cons]; exact gapL_after r true
 | c :: r, false => by
  by_cases hc : isSp c = true
  ·simp only [gapL, hc, if_true]; rw [Nat.add_comm, List.drop_succ_cons]; exact gapL_after r false
  ·by_cases hd : (isSl c && headSl r) = true
   ·simp only [gapL, hc, if_false, Bool.false_eq_true, hd, if_true]; rw [Nat.add_comm, List.drop_succ_cons]; exact gapL_after r true
   ·have : gapL false (c :: r) = 0 := by simp only [gapL, hc, if_false, Bool.false_eq_true, hd]
    rw [this]; exact this
theorem idx_sp (c : UInt8) : strings_IndexByte.f (⟨#[32, 9, 10, 13]⟩ : ByteArray) (c.toNat : Int) = some (Lib.indexByte [32, 9, 10, 13] c) := by
 unfold strings_IndexByte.f stringslite_IndexByte.f
 have : ((c.toNat : Int)).toNat.toUInt8 = c := by simp
 rw [this]; rfl
theorem idx_sp_iff (c : UInt8) : (Lib.indexByte [32, 9, 10, 13] c ≥ 0) ↔ isSp c = true := by
 have : ∀ n : Fin 256, (decide (Lib.indexByte [32, 9, 10, 13] (UInt8.ofNat n.val) ≥ 0)) = isSp (UInt8.ofNat n.val) := by decide +kernel
 have h := this ⟨c.toNat, c.toNat_lt⟩
 simp only [UInt8.ofNat_toNat] at h
 rw [← h]; simp
theorem hasPrefix_sl (s : ByteArray) (hs : s.size ≤ 1048576) (i : Nat) (c : UInt8) (r : List UInt8) (h : (L s).drop i = c :: r) :
  strings_HasPrefix.f (s.extract (i : Int).toNat s.size) (⟨#[47, 47]⟩ : ByteArray) = some (isSl c && headSl r) := by
 obtain ⟨hb, hi⟩ := bt_drop h
 have e1 : L (s.extract i s.size) = c :: r := by rw [L_extract, h, List.take_of_length_le]; rw [← h, List.length_drop, L_length]; omega
 unfold strings_HasPrefix.f stringslite_HasPrefix.f
 have e0 : ((i : Int)).toNat = i := by omega
 rw [e0]
 have e2 : (s.extract i s.size).size = (c :: r).length := by rw [size_eq_L, e1]
 have e3 : ((⟨#[47, 47]⟩ : ByteArray).size : Int) = 2 := rfl
 rw [e2, e3]
 cases r with
 | nil => simp [headSl]
 | cons d r =>
  rw [if_pos (by simp only [List.length_cons]; omega), if_pos (by omega), if_pos (by simp only [List.length_cons]; omega)]
  simp only [Option.bind_some, Option.some.injEq]
  rw [toList_L, L_extract, e1, toList_L]
  show ((List.take 2 (c :: d :: r)) == [47, 47]) = (isSl c && isSl d)
  simp only [List.take_succ_cons, List.take_zero]
  unfold isSl
  rw [Bool.eq_iff_iff]
  simp [← UInt8.toNat_inj]
theorem run_gap (s : ByteArray) (hs : s.size ≤ 1048576) (i : Nat) (hi : i ≤ s.size) :
  lex_run.f s i 95 = some ((((L s).drop i).takeWhile (fun c => !isNl c)).length : Int) := by
 unfold lex_run.f
 rw [if_pos ⟨by omega, by omega, by omega⟩]
 have e0 : ((i : Int)).toNat = i := by omega
 have e1 : fnP 95 = some (fun c => decide (c ≠ 10)) := by unfold fnP; simp
 rw [e0, e1]
 simp only [Option.map_some, Option.some.injEq]
 congr 3
 funext c
 unfold isNl
 rcases Classical.em (c.toNat = 10) with h | h <;> simp [h] <;> omega
theorem lgap_loop (s : ByteArray) (hs : s.size ≤ 1048576) : ∀ (n : Nat) (i : Nat), s.size - i ≤ n → i ≤ s.size →
  Ev (fun k => lex_gap.l0 k s i) ((i + gapL false ((L s).drop i) : Nat) : Int) := by
 intro n
 induction n with
 | zero =>
  intro i h0 h1
  refine Ev.step (fun k => lex_gap.l0.eq_2 _ _ k) ?_
  refine Ev.ite_neg (by omega) (Ev.some_ ?_)
  rw [List.drop_eq_nil_of_le (by rw [L_length]; omega)]; simp [gapL]
 | succ n ih =>
  intro i h0 h1
  cases h : (L s).drop i with
  | nil =>
   have h2 := drop_none h
   rw [L_length] at h2
   refine Ev.step (fun k => lex_gap.l0.eq_2 _ _ k) ?_
   exact Ev.ite_neg (by omega) (Ev.some_ (by simp [gapL]))
  | cons c r =>
   obtain ⟨hb, hi⟩ := bt_drop h
   refine Ev.step (fun k => lex_gap.l0.eq_2 _ _ k) ?_
   refine Ev.ite_pos (by omega) (Ev.ite_pos (by omega) ?_)
   rw [hb]
   refine Ev.bind_now (idx_sp c) ?_
   by_cases hc : isSp c = true
   ·refine Ev.ite_pos ((idx_sp_iff c).mpr hc) ?_
    rw [wrap_succ (by omega)]
    refine (ih (i + 1) (by omega) (by omega)).eq ?_
    rw [(drop_some h).2.2]; simp only [gapL, hc, if_true]; omega
   ·refine Ev.ite_neg (fun x => hc ((idx_sp_iff c).mp x)) (Ev.ite_pos (by omega) ?_)
    refine Ev.bind_now (hasPrefix_sl s hs i c r h) ?_
    by_cases hd : (isSl c && headSl r) = true
    ·refine Ev.ite_pos hd (Ev.bind_now (run_gap s hs i (by omega)) ?_)
     have hle : (((L s).drop i).takeWhile (fun c => !isNl c)).length ≤ s.size - i := by
      have := List.takeWhile_sublist (p := fun c => !isNl c) (l := (L s).drop i) |>.length_le
      rw [List.length_drop, L_length] at this; exact this
     have hpos : 1 ≤ (((L s).drop i).takeWhile (fun c => !isNl c)).length := by
      rw [h, List.takeWhile_cons]
      have : isNl c = false := by simp only [Bool.and_eq_true] at hd; unfold isSl at hd; unfold isNl; simp at hd; simp [hd.1]
      rw [this]; simp
     have e : wrap64 ((i : Int) + ((((L s).drop i).takeWhile (fun c => !isNl c)).length : Int)) = ((i + (((L s).drop i).takeWhile (fun c => !isNl c)).length : Nat) : Int) := by rw [wrap_id (by omega) (by omega)]; omega
     rw [e]
     refine (ih _ (by omega) (by omega)).eq ?_
     have g1 : gapL false (c :: r) = gapL true (c :: r) := by
      have : isNl c = false := by simp only [Bool.and_eq_true] at hd; unfold isSl at hd; unfold isNl; simp at hd; simp [hd.1]
      simp only [gapL, hc, hd, this, if_true, if_false, Bool.false_eq_true]
     rw [g1, gapL_true_take, ← h, List.drop_drop]
     omega
    ·refine Ev.ite_neg hd (Ev.some_ ?_)
     simp only [gapL, hc, hd, if_false, Bool.false_eq_true]; rfl
theorem lgap (s : ByteArray) (hs : s.size ≤ 1048576) (i : Nat) (hi : i ≤ s.size) : Ev (fun k => lex_gap.f k s i) ((i + gapL false ((L s).drop i) : Nat) : Int) :=
 lgap_loop s hs _ i (Nat.le_refl _) hi
theorem byte_all {p : UInt8 → Bool} (h : (List.range 256).all (fun n => p (UInt8.ofNat n)) = true) (c : UInt8) : p c = true := by
 have := (List.all_eq_true.mp h) c.toNat (List.mem_range.mpr c.toNat_lt)
 simpa using this
def nib (c : UInt8) : Option Nat := if 48 ≤ c.toNat ∧ c.toNat ≤ 57 then some (c.toNat - 48) else if 97 ≤ c.toNat ∧ c.toNat ≤ 102 then some (c.toNat - 87) else none
theorem nib_lt {c : UInt8} {x : Nat} (h : nib c = some x) : x < 16 := by
 unfold nib at h
 split at h
 ·injection h; omega
 ·split at h
  ·injection h; omega
  ·cases h
def pc : List UInt8 → Option (UInt8 × Nat)
 | [] => none
 | c :: r =>
  if c.toNat = 92 then
   match r with
   | [] => none
   | d :: r' =>
    if d.toNat = 110 then some (10, 2) else if d.toNat = 116 then some (9, 2) else if d.toNat = 34 ∨ d.toNat = 92 then some (d, 2)
    else if d.toNat = 120 then
     match r' with
     | a :: b :: _ => (match nib a, nib b with
      | some x, some y => some (UInt8.ofNat (16 * x + y), 4)
      | _, _ => none)
     | _ => none
    else none
  else if c.toNat < 32 ∨ 126 < c.toNat ∨ c.toNat = 34 then none else some (c, 1)
def pcI (l : List UInt8) : Int × Int := match pc l with
 | none => (0, 0)
 | some (b, n) => ((b.toNat : Int), (n : Int))
theorem lnib (c : UInt8) : lex_nibble.f (c.toNat : Int) = some (match nib c with | some x => (x : Int) | none => -1) := by
 have := byte_all (p := fun c => decide (lex_nibble.f (c.toNat : Int) = some (match nib c with | some x => (x : Int) | none => -1))) (by decide +kernel) c
 simpa using this
theorem rhalf (c : UInt8) : treadleref12_half.f (c.toNat : Int) = some (match nib c with | some x => (x : Int) | none => 16) := by
 have := byte_all (p := fun c => decide (treadleref12_half.f (c.toNat : Int) = some (match nib c with | some x => (x : Int) | none => 16))) (by decide +kernel) c
 simpa using this
theorem bits_l : ∀ a b : Fin 16, Go.bits .or .i64 (wrap64 ((a.val : Int) * 16)) (b.val : Int) % 256 = ((UInt8.ofNat (16 * a.val + b.val)).toNat : Int) := by decide +kernel
theorem bits_r : ∀ a b : Fin 16, Go.bits .or .u8 (((a.val : Int) * 16) % 256) (b.val : Int) = ((UInt8.ofNat (16 * a.val + b.val)).toNat : Int) := by decide +kernel
theorem lpiece0 (s : ByteArray) (k : Nat) : lex_piece.f (k + 3) s = some (pcI (L s)) := by
 cases h : L s with
 | nil => simp [lex_piece.f, toList_L, h, lex_piece.j0, pcI, pc]
 | cons c r =>
  obtain ⟨hb0, hi0⟩ := bt_drop (i := 0) (s := s) (c := c) (r := r) (by simpa using h)
  have hsz : s.size = r.length + 1 := by rw [size_eq_L, h]; rfl
  have hb0 : bt s 0 = (c.toNat : Int) := hb0
  unfold lex_piece.f
  rw [if_neg (by rw [toList_L, h]; simp), if_pos (by omega), hb0]
  have jt : lex_piece.j0 (k + 3) s true = some (0, 0) := by simp [lex_piece.j0]
  by_cases h1 : c.toNat < 32
  ·rw [if_pos (by omega), jt]; simp only [pcI, pc]; rw [if_neg (by omega), if_pos (Or.inl h1)]
  by_cases h2 : 126 < c.toNat
  ·rw [if_neg (by omega), if_pos (by omega), jt]; simp only [pcI, pc]; rw [if_neg (by omega), if_pos (Or.inr (Or.inl h2))]
  rw [if_neg (by omega), if_neg (by omega)]
  by_cases h3 : c.toNat = 34
  ·have : ((c.toNat : Int) == 34) = true := by simp; omega
   rw [this, jt]; simp only [pcI, pc]; rw [if_neg (by omega), if_pos (Or.inr (Or.inr h3))]
  have e3 : ((c.toNat : Int) == 34) = false := by simp; omega
  rw [e3, lex_piece.j0, if_neg (by simp), if_pos (by omega), hb0]
  by_cases h4 : c.toNat = 92
  rotate_left
  ·rw [if_neg (by omega)]; simp only [pcI, pc]; rw [if_neg h4, if_neg (by omega)]; rfl
  rw [if_pos (by omega)]
  cases r with
  | nil => rw [if_pos (by simp at hsz; omega)]; simp [pcI, pc, h4]
  | cons d r =>
   obtain ⟨hb1, hi1⟩ := bt_drop (i := 1) (s := s) (c := d) (r := r) (by simp [h])
   have hb1 : bt s 1 = (d.toNat : Int) := hb1
   simp only [List.length_cons] at hsz
   rw [if_neg (by omega), if_pos (by omega), hb1]
   simp only [pcI, pc]
   rw [if_pos h4]
   by_cases d1 : d.toNat = 110
   ·rw [if_pos (by omega), if_pos d1]; rfl
   rw [if_neg (by omega), if_neg d1]
   by_cases d2 : d.toNat = 116
   ·rw [if_pos (by omega), if_pos d2]; rfl
   rw [if_neg (by omega), if_neg d2]
   by_cases d3 : d.toNat = 34 ∨ d.toNat = 92
   ·rw [if_pos d3]
    have j1t : lex_piece.j1 (k + 2) s (d.toNat : Int) true = some ((d.toNat : Int), 2) := by rw [lex_piece.j1, if_pos rfl, if_pos (by omega), hb1]
    by_cases d4 : d.toNat = 34
    ·have : ((d.toNat : Int) == 34) = true := by simp; omega
     rw [if_pos (by omega), this, j1t]; rfl
    ·have : ((d.toNat : Int) == 92) = true := by simp; omega
     rw [if_neg (by omega), this, j1t]; rfl
   ·rw [if_neg d3]
    have : ((d.toNat : Int) == 92) = false := by simp; omega
    rw [if_neg (by omega), this, lex_piece.j1, if_neg (by simp)]
    have jf : lex_piece.j2 (k + 1) s false = some (0, 0) := by simp [lex_piece.j2]
    by_cases d5 : d.toNat = 120
    ·rw [if_pos (by omega), if_pos d5]
     match r, h, hsz with
     | [], h, hsz => rw [if_neg (by simp at hsz; omega), jf]
     | [a], h, hsz => rw [if_neg (by simp at hsz; omega), jf]
     | a :: b :: r, h, hsz =>
      obtain ⟨hb2, hi2⟩ := bt_drop (i := 2) (s := s) (c := a) (r := b :: r) (by simp [h])
      obtain ⟨hb3, hi3⟩ := bt_drop (i := 3) (s := s) (c := b) (r := r) (by simp [h])
      have hb2 : bt s 2 = (a.toNat : Int) := hb2
      have hb3 : bt s 3 = (b.toNat : Int) := hb3
      rw [if_pos (by omega), if_pos (by omega), hb2, lnib]
      simp only [Option.bind_some]
      cases hx : nib a with
      | none => simp only; rw [if_neg (by omega), jf]
      | some x =>
       simp only
       rw [if_pos (by omega), if_pos (by omega), hb3, lnib]
       simp only [Option.bind_some]
       cases hy : nib b with
       | none =>
        have : decide ((-1 : Int) ≥ 0) = false := by decide
        simp only; rw [this, jf]
       | some y =>
        have : decide ((y : Int) ≥ 0) = true := by simp
        simp only
        rw [this, lex_piece.j2, if_pos rfl, if_pos (by omega), hb2, lnib, hx]
        simp only [Option.bind_some]
        rw [if_pos (by omega), hb3, lnib, hy]
        simp only [Option.bind_some]
        have := bits_l ⟨x, nib_lt hx⟩ ⟨y, nib_lt hy⟩
        rw [this]; rfl
    ·rw [if_neg (by omega), if_neg d5]
theorem lpiece (s : ByteArray) : Ev (fun k => lex_piece.f k s) (pcI (L s)) := ⟨3, fun k hk => by
 obtain ⟨j, rfl⟩ : ∃ j, k = j + 3 := ⟨k - 3, by omega⟩
 exact lpiece0 s j⟩
theorem rpiece0 (s : ByteArray) (hs : s.size ≤ 1048576) (i k : Nat) (hi : i ≤ s.size) : treadleref12_piece.f (k + 3) s i = some (pcI ((L s).drop i)) := by
 have w1 : wrap64 ((i : Int) + 1) = ((i + 1 : Nat) : Int) := wrap_succ (by omega)
 have w2 : wrap64 ((i : Int) + 2) = ((i + 2 : Nat) : Int) := by rw [wrap_id (by omega) (by omega)]; omega
 have w3 : wrap64 ((i : Int) + 3) = ((i + 3 : Nat) : Int) := by rw [wrap_id (by omega) (by omega)]; omega
 cases h : (L s).drop i with
 | nil =>
  have := drop_none h; rw [L_length] at this
  unfold treadleref12_piece.f
  rw [if_pos (by omega)]; rfl
 | cons c r =>
  obtain ⟨hb0, hi0⟩ := bt_drop h
  have hr := (drop_some h).2.2
  have hsz : s.size = i + r.length + 1 := by
   have := congrArg List.length h
   rw [List.length_drop, L_length, List.length_cons] at this; omega
  unfold treadleref12_piece.f
  rw [if_neg (by omega), if_pos (by omega), if_pos (by omega), hb0, w1]
  by_cases h4 : c.toNat = 92
  rotate_left
  ·rw [if_neg (by omega)]
   simp only [pcI, pc]; rw [if_neg h4]
   by_cases h1 : c.toNat < 32
   ·rw [if_pos (by omega), if_pos (Or.inl h1)]
   by_cases h2 : 126 < c.toNat
   ·rw [if_neg (by omega), if_pos (by omega), if_pos (Or.inr (Or.inl h2))]
   by_cases h3 : c.toNat = 34
   ·rw [if_neg (by omega), if_neg (by omega), if_pos (by omega), if_pos (Or.inr (Or.inr h3))]
   rw [if_neg (by omega), if_neg (by omega), if_neg (by omega), if_neg (by omega)]; rfl
  rw [if_pos (by omega)]
  cases r with
  | nil => rw [if_pos (by simp at hsz; omega)]; simp [pcI, pc, h4]
  | cons d r =>
   obtain ⟨hb1, hi1⟩ := bt_drop hr
   have hr2 := (drop_some hr).2.2
   simp only [List.length_cons] at hsz
   rw [if_neg (by omega), if_pos (by omega), if_pos (by omega), hb1]
   simp only [pcI, pc]
   rw [if_pos h4]
   by_cases d1 : d.toNat = 110
   ·rw [if_pos (by omega), if_pos d1]; rfl
   rw [if_neg (by omega), if_neg d1]
   by_cases d2 : d.toNat = 116
   ·rw [if_pos (by omega), if_pos d2]; rfl
   rw [if_neg (by omega), if_neg d2]
   by_cases d3 : d.toNat = 34 ∨ d.toNat = 92
   ·rw [if_pos d3]
    have j1t : treadleref12_piece.j0 (k + 3) s i (d.toNat : Int) true = some ((d.toNat : Int), 2) := by
     rw [treadleref12_piece.j0, if_pos rfl, w1, if_pos (by omega), if_pos (by omega), hb1]
    by_cases d4 : d.toNat = 34
    ·have : ((d.toNat : Int) == 34) = true := by simp; omega
     rw [if_pos (by omega), this, j1t]; rfl
    ·have : ((d.toNat : Int) == 92) = true := by simp; omega
     rw [if_neg (by omega), this, j1t]; rfl
   ·rw [if_neg d3]
    have : ((d.toNat : Int) == 92) = false := by simp; omega
    rw [if_neg (by omega), this, treadleref12_piece.j0, if_neg (by simp)]
    have jf : treadleref12_piece.j1 (k + 2) s i false = some (0, 0) := by simp [treadleref12_piece.j1]
    by_cases d5 : d.toNat = 120
    ·rw [if_pos (by omega), if_pos d5, w3]
     match r, hr2, hsz with
     | [], hr2, hsz => rw [if_neg (by simp at hsz; omega), jf]
     | [a], hr2, hsz => rw [if_neg (by simp at hsz; omega), jf]
     | a :: b :: r, hr2, hsz =>
      obtain ⟨hb2, hi2⟩ := bt_drop hr2
      obtain ⟨hb3, hi3⟩ := bt_drop (drop_some hr2).2.2
      rw [w2, if_pos (by omega), if_pos (by omega), if_pos (by omega), hb2, rhalf]
      simp only [Option.bind_some]
      cases hx : nib a with
      | none => simp only; rw [if_neg (by omega), jf]
      | some x =>
       have hx16 := nib_lt hx
       simp only
       rw [if_pos (by omega), if_pos (by omega), hb3, rhalf]
       simp only [Option.bind_some]
       cases hy : nib b with
       | none =>
        have : decide ((16 : Int) < 16) = false := by decide
        simp only; rw [this, jf]
       | some y =>
        have hy16 := nib_lt hy
        have : decide ((y : Int) < 16) = true := by simp; omega
        simp only
        rw [this, treadleref12_piece.j1, if_pos rfl, w2, w3, if_pos (by omega), if_pos (by omega), hb2, rhalf, hx]
        simp only [Option.bind_some]
        rw [if_pos (by omega), if_pos (by omega), hb3, rhalf, hy]
        simp only [Option.bind_some]
        have := bits_r ⟨x, nib_lt hx⟩ ⟨y, nib_lt hy⟩
        rw [this]; rfl
    ·rw [if_neg (by omega), if_neg d5]
theorem rpiece (s : ByteArray) (hs : s.size ≤ 1048576) (i : Nat) (hi : i ≤ s.size) : Ev (fun k => treadleref12_piece.f k s i) (pcI ((L s).drop i)) := ⟨3, fun k hk => by
 obtain ⟨j, rfl⟩ : ∃ j, k = j + 3 := ⟨k - 3, by omega⟩
 exact rpiece0 s hs i j hi⟩
def ql : Nat → List UInt8 → Option (List UInt8 × Nat)
 | 0, _ => none
 | f + 1, [] => none
 | f + 1, c :: r => if c.toNat = 34 then some ([], 1) else
   match pc (c :: r) with
   | none => none
   | some (b, n) => match ql f ((c :: r).drop n) with
    | none => none
    | some (t, m) => some (b :: t, n + m)
theorem pc_pos {l : List UInt8} {b : UInt8} {n : Nat} (h : pc l = some (b, n)) : 1 ≤ n ∧ n ≤ l.length := by
 unfold pc at h
 split at h
 ·cases h
 ·split at h
  ·split at h
   ·cases h
   ·split at h
    ·injection h with h; injection h with h1 h2; simp; omega
    ·split at h
     ·injection h with h; injection h with h1 h2; simp; omega
     ·split at h
      ·injection h with h; injection h with h1 h2; simp; omega
      ·split at h
       ·split at h
        ·split at h
         ·injection h with h; injection h with h1 h2; simp; omega
         ·cases h
        ·cases h
       ·cases h
  ·split at h
   ·cases h
   ·injection h with h; injection h with h1 h2; simp; omega
theorem ql_fuel : ∀ (f g : Nat) (l : List UInt8), l.length < f → l.length < g → ql f l = ql g l
 | 0, _, l, h, _ => by omega
 | f + 1, 0, l, _, h => by omega
 | f + 1, g + 1, [], _, _ => rfl
 | f + 1, g + 1, c :: r, h1, h2 => by
  unfold ql
  split
  ·rfl
  ·cases hp : pc (c :: r) with
   | none => rfl
   | some q =>
    obtain ⟨b, n⟩ := q
    obtain ⟨p1, p2⟩ := pc_pos hp
    simp only
    rw [ql_fuel f g _ (by rw [List.length_drop]; simp only [List.length_cons] at *; omega) (by rw [List.length_drop]; simp only [List.length_cons] at *; omega)]
def nums (A : List UInt8) : List Int := A.map (fun b => (b.toNat : Int))
theorem strOfNums_nums (A : List UInt8) : strOfNums (nums A) = mkB A := by
 apply L_inj
 rw [L_mkB]
 show (strOfNums (nums A)).data.toList = A
 rw [strOfNums_data]
 unfold nums
 rw [List.map_map]
 conv => rhs; rw [← List.map_id A]
 apply List.map_congr_left
 intro c _
 simp
def qI (e : Int) (A : List UInt8) (i : Nat) : Option (List UInt8 × Nat) → ByteArray × Int
 | none => (⟨#[]⟩, e)
 | some (t, m) => if A.length + t.length ≤ 4096 then (mkB (A ++ t), ((i + m : Nat) : Int)) else (⟨#[]⟩, e)
theorem quo_arith {z i n f q : Nat} (h1 : z - i = q) (h2 : n ≤ q) (h3 : 1 ≤ n) (h4 : z - i < f + 1) (h5 : i ≤ z) : z - (i + n) < f ∧ i + n ≤ z := by omega
theorem len_snoc {A : List UInt8} {b : UInt8} {m : Nat} (h1 : A.length < m) : (A ++ [b]).length ≤ m := by rw [List.length_append]; exact h1
theorem drop_len {s : ByteArray} {i f : Nat} (h : s.size - i < f) : ((L s).drop i).length < f := by rw [List.length_drop, L_length]; exact h
theorem lquo_loop (s : ByteArray) (hs : s.size ≤ 1048576) : ∀ (f : Nat) (A : List UInt8) (i : Nat), A.length ≤ 4096 → ((L s).drop i).length < f → i ≤ s.size →
  Ev (fun k => lex_quoted.l0 k s (nums A) i) (qI 0 A i (ql f ((L s).drop i)))
 | 0, A, i, hA, hl, hi => by omega
 | f + 1, A, i, hA, hl, hi => by
  have hz : s.size - i < f + 1 := by rw [List.length_drop, L_length] at hl; exact hl
  clear hl
  refine Ev.step (fun k => lex_quoted.l0.eq_2 _ _ _ k) ?_
  cases h : (L s).drop i with
  | nil =>
   have h1 := drop_none h; rw [L_length] at h1
   refine Ev.ite_neg (by omega) ?_
   refine Ev.step (fun k => lex_quoted.j2.eq_2 _ _ _ _ k) ?_
   exact Ev.ite_neg (by simp) (Ev.ite_pos (by omega) (Ev.some_ (by simp [ql, qI])))
  | cons c r =>
   obtain ⟨hb, hi'⟩ := bt_drop h
   refine Ev.ite_pos (by omega) (Ev.ite_pos (by omega) ?_)
   refine Ev.step (fun k => lex_quoted.j2.eq_2 _ _ _ _ k) ?_
   rw [hb]
   by_cases hq : c.toNat = 34
   ·have e : ((c.toNat : Int) != 34) = false := by rw [bne_eq_false_iff_eq]; omega
    refine Ev.ite_neg (by simp [e]) (Ev.ite_neg (by omega) (Ev.some_ ?_))
    rw [strOfNums_nums, wrap_succ (by omega)]
    simp only [ql, hq, if_true, qI, List.append_nil, List.length_nil]
    rw [if_pos (by omega)]
   ·have e : ((c.toNat : Int) != 34) = true := by rw [bne_iff_ne]; omega
    refine Ev.ite_pos e (Ev.ite_pos (by omega) (Ev.ite_pos (by omega) ?_))
    have e0 : ((i : Int)).toNat = i := by omega
    have e1 : L (s.extract i s.size) = c :: r := by rw [L_extract, h, List.take_of_length_le]; rw [← h, List.length_drop, L_length]; omega
    rw [e0]
    refine Ev.bind (lpiece _) ?_
    rw [e1]
    unfold ql
    rw [if_neg hq]
    unfold pcI
    cases hp : pc (c :: r) with
    | none => exact Ev.ite_pos rfl (Ev.some_ rfl)
    | some q =>
     obtain ⟨b, n⟩ := q
     obtain ⟨p1, p2⟩ := pc_pos hp
     have hlen := congrArg List.length h
     rw [List.length_drop, L_length] at hlen
     obtain ⟨q2, q3⟩ := quo_arith hlen p2 p1 hz hi
     refine Ev.ite_neg (by simp; omega) ?_
     have hnl : (nums A).length = A.length := by unfold nums; simp
     have ed : (c :: r).drop n = (L s).drop (i + n) := by rw [← h, List.drop_drop]
     by_cases hA2 : A.length = 4096
     ·refine Ev.ite_pos (by omega) (Ev.some_ ?_)
      simp only [ed]
      cases ql f ((L s).drop (i + n)) with
      | none => rfl
      | some z => obtain ⟨t, m⟩ := z; simp only [qI, List.length_cons]; rw [if_neg (by omega)]
     ·have q4 : (A ++ [b]).length ≤ 4096 := len_snoc (by omega)
      refine Ev.ite_neg (by omega) (Ev.ite_pos (by omega) ?_)
      have e2 : nums A ++ [(b.toNat : Int)] = nums (A ++ [b]) := by unfold nums; simp
      have e3 : wrap64 ((i : Int) + (n : Int)) = ((i + n : Nat) : Int) := by rw [wrap_id (by omega) (by omega)]; omega
      simp only
      rw [e2, e3]
      refine (lquo_loop s hs f (A ++ [b]) (i + n) q4 (drop_len q2) q3).eq ?_
      rw [ed]
      cases ql f ((L s).drop (i + n)) with
      | none => rfl
      | some z =>
       obtain ⟨t, m⟩ := z
       simp only [qI, List.length_append, List.length_cons, List.length_nil, List.append_assoc, List.singleton_append]
       by_cases hh : A.length + (t.length + 1) ≤ 4096
       ·rw [if_pos (by omega), if_pos hh, Nat.add_assoc]
       ·rw [if_neg (by omega), if_neg hh]
theorem rquo_loop (s : ByteArray) (hs : s.size ≤ 1048576) : ∀ (f : Nat) (A : List UInt8) (i : Nat), A.length ≤ i → ((L s).drop i).length < f → i ≤ s.size →
  Ev (fun k => treadleref12_quoted.l0 k s (nums A) i) (qI (-1) A i (ql f ((L s).drop i)))
 | 0, A, i, hA, hl, hi => by omega
 | f + 1, A, i, hA, hl, hi => by
  have hz : s.size - i < f + 1 := by rw [List.length_drop, L_length] at hl; exact hl
  clear hl
  have hnl : (nums A).length = A.length := by unfold nums; simp
  refine Ev.step (fun k => treadleref12_quoted.l0.eq_2 _ _ _ k) ?_
  cases h : (L s).drop i with
  | nil =>
   have h1 := drop_none h; rw [L_length] at h1
   refine Ev.ite_neg (by omega) ?_
   refine Ev.step (fun k => treadleref12_quoted.j1.eq_2 _ _ _ _ k) ?_
   refine Ev.ite_neg (by simp) ?_
   refine Ev.bind (rpiece s hs i (by omega)) ?_
   rw [h]
   exact Ev.ite_pos rfl (Ev.some_ rfl)
  | cons c r =>
   obtain ⟨hb, hi'⟩ := bt_drop h
   refine Ev.ite_pos (by omega) (Ev.ite_pos (by omega) ?_)
   refine Ev.step (fun k => treadleref12_quoted.j1.eq_2 _ _ _ _ k) ?_
   rw [hb]
   by_cases hq : c.toNat = 34
   ·have e : ((c.toNat : Int) == 34) = true := by simp; omega
    refine Ev.ite_pos e ?_
    by_cases hA2 : A.length ≤ 4096
    ·refine Ev.ite_neg (by omega) (Ev.some_ ?_)
     rw [strOfNums_nums, wrap_succ (by omega)]
     simp only [ql, hq, if_true, qI, List.append_nil, List.length_nil]
     rw [if_pos (by omega)]
    ·refine Ev.ite_pos (by omega) (Ev.some_ ?_)
     simp only [ql, hq, if_true, qI, List.append_nil, List.length_nil]
     rw [if_neg (by omega)]
   ·have e : ((c.toNat : Int) == 34) = false := by simp; omega
    refine Ev.ite_neg (by simp [e]) ?_
    refine Ev.bind (rpiece s hs i (by omega)) ?_
    rw [h]
    unfold ql
    rw [if_neg hq]
    unfold pcI
    cases hp : pc (c :: r) with
    | none => exact Ev.ite_pos rfl (Ev.some_ rfl)
    | some q =>
     obtain ⟨b, n⟩ := q
     obtain ⟨p1, p2⟩ := pc_pos hp
     have hlen := congrArg List.length h
     rw [List.length_drop, L_length] at hlen
     obtain ⟨q2, q3⟩ := quo_arith hlen p2 p1 hz hi
     have q4 : (A ++ [b]).length ≤ i + n := len_snoc (by omega)
     refine Ev.ite_neg (by simp; omega) (Ev.ite_pos (by omega) ?_)
     have ed : (c :: r).drop n = (L s).drop (i + n) := by rw [← h, List.drop_drop]
     have e2 : nums A ++ [(b.toNat : Int)] = nums (A ++ [b]) := by unfold nums; simp
     have e3 : wrap64 ((i : Int) + (n : Int)) = ((i + n : Nat) : Int) := by rw [wrap_id (by omega) (by omega)]; omega
     simp only
     rw [e2, e3]
     refine (rquo_loop s hs f (A ++ [b]) (i + n) q4 (drop_len q2) q3).eq ?_
     rw [ed]
     cases ql f ((L s).drop (i + n)) with
     | none => rfl
     | some z =>
      obtain ⟨t, m⟩ := z
      simp only [qI, List.length_append, List.length_cons, List.length_nil, List.append_assoc, List.singleton_append]
      by_cases hh : A.length + (t.length + 1) ≤ 4096
      ·rw [if_pos (by omega), if_pos hh, Nat.add_assoc]
      ·rw [if_neg (by omega), if_neg hh]
def quo (r : List UInt8) : Option (List UInt8 × Nat) := match ql (r.length + 1) r with
 | none => none
 | some (t, m) => if t.length ≤ 4096 then some (t, m + 1) else none
theorem lquoted (s : ByteArray) (hs : s.size ≤ 1048576) : Ev (fun k => lex_quoted.f k s) (match L s with
  | [] => (⟨#[]⟩, 0)
  | c :: r => if c.toNat = 34 then (match quo r with | none => (⟨#[]⟩, 0) | some (t, n) => (mkB t, (n : Int))) else (⟨#[]⟩, 0)) := by
 unfold lex_quoted.f
 cases h : L s with
 | nil =>
  refine Ev.ite_pos (by rw [toList_L, h]) (Ev.step (fun k => lex_quoted.j0.eq_2 _ _ k) (Ev.ite_pos rfl (Ev.some_ rfl)))
 | cons c r =>
  obtain ⟨hb0, hi0⟩ := bt_drop (i := 0) (s := s) (c := c) (r := r) (by simpa using h)
  have hb0 : bt s 0 = (c.toNat : Int) := hb0
  have hr : (L s).drop 1 = r := by rw [h]; rfl
  refine Ev.ite_neg (by rw [toList_L, h]; simp) (Ev.ite_pos (by omega) (Ev.step (fun k => lex_quoted.j0.eq_2 _ _ k) ?_))
  rw [hb0]
  by_cases hq : c.toNat = 34
  ·have e : ((c.toNat : Int) != 34) = false := by rw [bne_eq_false_iff_eq]; omega
   refine Ev.ite_neg (by simp [e]) ((lquo_loop s hs (r.length + 1) [] 1 (by simp) (by rw [hr]; omega) (by omega)).eq ?_)
   rw [hr]
   simp only [if_pos hq]
   unfold quo
   cases ql (r.length + 1) r with
   | none => rfl
   | some z =>
    obtain ⟨t, m⟩ := z
    simp only [qI, List.length_nil, List.nil_append, Nat.zero_add]
    by_cases ht : t.length ≤ 4096
    ·simp only [if_pos ht]; rw [Nat.add_comm]
    ·simp only [if_neg ht]
  ·have e : ((c.toNat : Int) != 34) = true := by rw [bne_iff_ne]; omega
   exact Ev.ite_pos e (Ev.some_ (by simp [hq]))
theorem rquoted (s : ByteArray) (hs : s.size ≤ 1048576) (i : Nat) (c : UInt8) (r : List UInt8) (h : (L s).drop i = c :: r) : Ev (fun k => treadleref12_quoted.f k s i) (match quo r with | none => (⟨#[]⟩, -1) | some (t, n) => (mkB t, ((i + n : Nat) : Int))) := by
 unfold treadleref12_quoted.f
 obtain ⟨hb0, hi0⟩ := bt_drop h
 have hr := (drop_some h).2.2
 rw [wrap_succ (by omega)]
 refine (rquo_loop s hs (r.length + 1) [] (i + 1) (by simp) (by rw [hr]; omega) (by omega)).eq ?_
 rw [hr]
 unfold quo
 cases ql (r.length + 1) r with
 | none => rfl
 | some z =>
  obtain ⟨t, m⟩ := z
  simp only [qI, List.length_nil, List.nil_append, Nat.zero_add]
  by_cases ht : t.length ≤ 4096
  ·simp only [if_pos ht]
   have : i + 1 + m = i + (m + 1) := by omega
   rw [this]
  ·simp only [if_neg ht]
def isL (c : UInt8) : Bool := isLetter (c.toNat : Int)
def isD (c : UInt8) : Bool := isDigit (c.toNat : Int)
def isW (c : UInt8) : Bool := isL c || isD c
theorem isD_iff (c : UInt8) : isD c = true ↔ (48 ≤ c.toNat ∧ c.toNat ≤ 57) := by
 unfold isD isDigit
 simp only [Bool.and_eq_true, decide_eq_true_eq]
 constructor <;> intro h <;> omega
theorem lletter (c : UInt8) : lex_letter.f (c.toNat : Int) = some (isL c) := by
 simpa using byte_all (p := fun c => decide (lex_letter.f (c.toNat : Int) = some (isL c))) (by decide +kernel) c
theorem rletter (c : UInt8) : treadleref12_Letter.f (c.toNat : Int) = some (isL c) := by
 simpa using byte_all (p := fun c => decide (treadleref12_Letter.f (c.toNat : Int) = some (isL c))) (by decide +kernel) c
theorem ldigit (c : UInt8) : lex_digit.f (c.toNat : Int) = some (isD c) := by
 simpa using byte_all (p := fun c => decide (lex_digit.f (c.toNat : Int) = some (isD c))) (by decide +kernel) c
theorem rdigit (c : UInt8) : treadleref12_Digit.f (c.toNat : Int) = some (isD c) := by
 simpa using byte_all (p := fun c => decide (treadleref12_Digit.f (c.toNat : Int) = some (isD c))) (by decide +kernel) c
def dv (c : UInt8) : Nat := c.toNat - 48
def val (a : Nat) (l : List UInt8) : Nat := l.foldl (fun x c => 10 * x + dv c) a
theorem val_nil (a : Nat) : val a [] = a := List.foldl_nil
theorem val_cons (a : Nat) (c : UInt8) (r : List UInt8) : val a (c :: r) = val (10 * a + dv c) r := List.foldl_cons ..
attribute [irreducible] val
theorem val_ge : ∀ (l : List UInt8) (a : Nat), a ≤ val a l
 | [], a => by rw [val_nil]; exact Nat.le_refl _
 | c :: r, a => by
  rw [val_cons]
  have := val_ge r (10 * a + dv c)
  generalize val (10 * a + dv c) r = X at *
  omega
def lead0 : List UInt8 → Bool
 | [] => true
 | c :: r => decide (c.toNat = 48) && !r.isEmpty
def numOk (l : List UInt8) : Bool := l.all isD && !lead0 l && decide (val 0 l ≤ 9223372036854775807)
theorem parseU (l : List UInt8) : ∀ (a : Nat), l.all isD = true → a ≤ 18446744073709551615 → Lib.parseUintM 18446744073709551615 a l = if val a l ≤ 18446744073709551615 then .ok (val a l) else .range := by
 induction l with
 | nil => intro a _ ha; unfold Lib.parseUintM; rw [val_nil, if_pos ha]
 | cons c r ih =>
  intro a hl ha
  simp only [List.all_cons, Bool.and_eq_true] at hl
  have hc := (isD_iff c).mp hl.1
  unfold Lib.parseUintM
  rw [val_cons]
  rw [if_pos hc]
  have hv := val_ge r (10 * a + dv c)
  have hd : dv c = c.toNat - 48 := rfl
  by_cases h1 : 1844674407370955162 ≤ a
  ·rw [if_pos h1, if_neg (by generalize val (10 * a + dv c) r = X at *; omega)]
  rw [if_neg h1]
  have e : a * 10 + (c.toNat - 48) = 10 * a + dv c := by rw [hd, Nat.mul_comm]
  rw [e]
  by_cases h2 : 18446744073709551615 < 10 * a + dv c
  ·rw [if_pos h2, if_neg (by generalize val (10 * a + dv c) r = X at *; omega)]
  ·rw [if_neg h2, ih _ hl.2 (by omega)]
theorem parseI (c : UInt8) (r : List UInt8) (h : (c :: r).all isD = true) : Lib.parseIntB 64 (c :: r) = if val 0 (c :: r) ≤ 9223372036854775807 then .ok ((val 0 (c :: r) : Nat) : Int) else .range := by
 have hc : isD c = true := by simp only [List.all_cons, Bool.and_eq_true] at h; exact h.1
 have hc := (isD_iff c).mp hc
 unfold Lib.parseIntB
 simp only
 rw [if_neg (by omega)]
 unfold Lib.parseUintB
 rw [if_neg (by simp)]
 have e64 : (2 ^ 64 - 1 : Nat) = 18446744073709551615 := by decide
 have e63 : (2 ^ (64 - 1) : Nat) = 9223372036854775808 := by decide
 rw [e64, e63, parseU _ 0 h (by omega)]
 have hn : ¬ c.toNat = 45 := by omega
 generalize val 0 (c :: r) = X
 by_cases h1 : X ≤ 18446744073709551615
 ·rw [if_pos h1]
  simp only
  by_cases h2 : X ≤ 9223372036854775807
  ·rw [if_neg (by omega), if_neg (by omega), if_pos h2, if_neg hn]
  ·rw [if_pos (by omega), if_neg h2]
 ·rw [if_neg h1]
  simp only
  rw [if_neg (by omega)]
theorem dec_snoc {u : Nat} (hu : 1 ≤ u) (c : UInt8) (hc : isD c = true) : Lib.decDigits (10 * u + dv c) = Lib.decDigits u ++ [c] := by
 have h := (isD_iff c).mp hc
 have hd : dv c = c.toNat - 48 := rfl
 rw [Lib.decDigits, dif_neg (by omega)]
 have e1 : (10 * u + dv c) / 10 = u := by omega
 have e2 : (10 * u + dv c) % 10 = dv c := by omega
 rw [e1, e2]
 have e3 : UInt8.ofNat (48 + dv c) = c := by rw [hd, show 48 + (c.toNat - 48) = c.toNat by omega]; simp
 rw [e3]
theorem dec_val : ∀ (r : List UInt8) (u : Nat), 1 ≤ u → r.all isD = true → Lib.decDigits (val u r) = Lib.decDigits u ++ r
 | [], u, _, _ => by rw [val_nil, List.append_nil]
 | c :: r, u, hu, hr => by
  simp only [List.all_cons, Bool.and_eq_true] at hr
  rw [val_cons]
  rw [dec_val r (10 * u + dv c) (by omega) hr.2, dec_snoc hu c hr.1]
  simp
theorem dec_head (u : Nat) : 1 ≤ u → ∀ t, Lib.decDigits u ≠ 48 :: t := by
 induction u using Nat.strongRecOn with
 | ind u ih =>
  intro hu t h
  rw [Lib.decDigits] at h
  split at h
  ·injection h with h1 _
   have := congrArg UInt8.toNat h1
   rw [UInt8.toNat_ofNat_of_lt' (by show 48 + u < 256; omega)] at this
   have h48 : (48 : UInt8).toNat = 48 := rfl
   omega
  ·rename_i hlt
   cases hx : Lib.decDigits (u / 10) with
   | nil => 
    have := Lib.decDigits_length (u / 10)
    have h2 := Lib.nDigits_pos (u / 10)
    rw [hx] at this; simp at this; omega
   | cons d x =>
    rw [hx] at h
    injection h with h1 _
    subst h1
    exact ih (u / 10) (by omega) (by omega) x hx
theorem itoa_lead (c : UInt8) (r : List UInt8) (h : (c :: r).all isD = true) : decide (Lib.itoa ((val 0 (c :: r) : Nat) : Int) = c :: r) = !lead0 (c :: r) := by
 have hh := h
 simp only [List.all_cons, Bool.and_eq_true] at h
 have hc := (isD_iff c).mp h.1
 have hi : Lib.itoa ((val 0 (c :: r) : Nat) : Int) = Lib.decDigits (val 0 (c :: r)) := by
  unfold Lib.itoa
  rw [if_neg (Int.not_lt.mpr (Int.natCast_nonneg _)), Int.toNat_natCast]
 rw [hi]
 have e0 : val 0 (c :: r) = val (dv c) r := by rw [val_cons, show 10 * 0 + dv c = dv c by omega]
 rw [e0]
 have hd : dv c = c.toNat - 48 := rfl
 have ec : UInt8.ofNat (48 + dv c) = c := by rw [hd, show 48 + (c.toNat - 48) = c.toNat by omega]; simp
 by_cases h0 : c.toNat = 48
 ·have hz : dv c = 0 := by omega
  have hc48 : c = 48 := by rw [← ec, hz]; rfl
  unfold lead0
  cases r with
  | nil =>
   have hz : Lib.decDigits (val (dv c) []) = [c] := by
    rw [val_nil, Lib.decDigits_one (by omega), ec]
   rw [decide_eq_true hz]; simp
  | cons d r =>
   have : ¬ Lib.decDigits (val (dv c) (d :: r)) = c :: d :: r := by
    intro hx
    have hx' : Lib.decDigits (val (dv c) (d :: r)) = 48 :: (d :: r) := hx.trans (by rw [hc48])
    rcases Nat.eq_zero_or_pos (val (dv c) (d :: r)) with hv | hv
    ·rw [hv, Lib.decDigits_one (by omega)] at hx'; simp at hx'
    ·exact dec_head _ hv _ hx'
   simp [this, h0]
 ·unfold lead0
  rw [dec_val r (dv c) (by omega) h.2, Lib.decDigits_one (by omega), ec]
  simp [h0]
theorem lwhole (s : ByteArray) (hs : s.size ≤ 1048576) (h : (L s).all isD = true) (hne : L s ≠ []) : ∃ v, lex_whole.f s = some (v, numOk (L s)) ∧ (numOk (L s) = true → v = ((val 0 (L s) : Nat) : Int)) := by
 cases hl : L s with
 | nil => exact absurd hl hne
 | cons c r =>
  have hl' : s.data.toList = c :: r := hl
  have hall : (c :: r).all isD = true := by rw [← hl]; exact h
  have hc : isDigit (c.toNat : Int) = true := by
   simp only [List.all_cons, Bool.and_eq_true] at hall; exact hall.1
  unfold lex_whole.f
  rw [hl']
  simp only
  rw [if_pos ⟨hc, by omega⟩, parseI c r hall]
  unfold numOk
  by_cases h2 : val 0 (c :: r) ≤ 9223372036854775807
  ·rw [if_pos h2]
   simp only
   rw [itoa_lead c r hall, hall, decide_eq_true h2]
   exact ⟨_, by simp, fun _ => rfl⟩
  ·rw [if_neg h2]
   simp only
   rw [decide_eq_false h2]
   exact ⟨_, by simp; rfl, by simp⟩
theorem lkey (a : ByteArray) : lex_Key.f a = some (decide (L a ∈ keyTexts)) := rfl
def sgn (l : List UInt8) : Nat := if l.take 2 ∈ twoSigns then 2 else match l with | [] => 0 | c :: _ => if c ∈ oneSigns then 1 else 0
theorem two_len (t : List UInt8) (h : t ∈ twoSigns) : t.length = 2 := by
 unfold twoSigns at h; simp at h; rcases h with rfl | rfl | rfl | rfl | rfl | rfl | rfl <;> rfl
theorem lsign (s : ByteArray) (h : L s ≠ []) : lex_sign.f s = some ((sgn (L s) : Nat) : Int) := by
 unfold lex_sign.f sgn
 have e : twoSigns.any (fun t => decide (s.data.toList.take 2 = t)) = decide ((L s).take 2 ∈ twoSigns) := by
  rw [Bool.eq_iff_iff]; simp [L]
 rw [e]
 by_cases h2 : (L s).take 2 ∈ twoSigns
 ·rw [if_pos (by simpa using h2), if_pos h2]; rfl
 rw [if_neg (by simpa using h2), if_neg h2]
 cases hl : L s with
 | nil => exact absurd hl h
 | cons c r =>
  obtain ⟨hb0, hi0⟩ := bt_drop (i := 0) (s := s) (c := c) (r := r) (by simpa using hl)
  have hb0 : bt s 0 = (c.toNat : Int) := hb0
  rw [if_neg (by omega), hb0]
  have ec : ((c.toNat : Int)).toNat.toUInt8 = c := by simp
  rw [ec]
  have := byte_all (p := fun c => decide (Lib.indexByte oneSigns c ≥ 0) == decide (c ∈ oneSigns)) (by decide +kernel) c
  have this : decide (Lib.indexByte oneSigns c ≥ 0) = decide (c ∈ oneSigns) := by simpa using this
  simp only
  by_cases h1 : c ∈ oneSigns
  ·rw [if_pos (by rw [decide_eq_true h1] at this; exact of_decide_eq_true this), if_pos h1]; rfl
  ·rw [if_neg (by rw [decide_eq_false h1] at this; exact of_decide_eq_false this), if_neg h1]; rfl
def headL : List UInt8 → Bool
 | [] => false
 | c :: _ => isL c
def tokC (c : UInt8) (r : List UInt8) : Nat × Nat × Nat :=
  if isL c = true then
   if 32 < ((c :: r).takeWhile isW).length then (0, 0, 123) else if (c :: r).take ((c :: r).takeWhile isW).length ∈ keyTexts then (4, ((c :: r).takeWhile isW).length, 0) else (1, ((c :: r).takeWhile isW).length, 0)
  else if isD c = true then
   if (numOk ((c :: r).take ((c :: r).takeWhile isD).length) && !headL ((c :: r).drop ((c :: r).takeWhile isD).length)) = true then (2, ((c :: r).takeWhile isD).length, 0) else (0, 0, 121)
  else if c.toNat = 34 then
   match quo r with
   | none => (0, 0, 122)
   | some (t, n) => (3, n, 0)
  else if sgn (c :: r) = 0 then (0, 0, 120) else (5, sgn (c :: r), 0)
def tok : List UInt8 → Nat × Nat × Nat
 | [] => (0, 0, 120)
 | c :: r => tokC c r
theorem tw_le (p : UInt8 → Bool) (l : List UInt8) : (l.takeWhile p).length ≤ l.length := (List.takeWhile_sublist (p := p) (l := l)).length_le
theorem tw_take (p : UInt8 → Bool) (l : List UInt8) : l.take (l.takeWhile p).length = l.takeWhile p := by
 induction l with
 | nil => rfl
 | cons c r ih =>
  rw [List.takeWhile_cons]
  by_cases h : p c = true
  ·simp [h, ih]
  ·simp [h]
theorem tw_all (p : UInt8 → Bool) (l : List UInt8) : (l.takeWhile p).all p = true := by
 induction l with
 | nil => rfl
 | cons c r ih =>
  rw [List.takeWhile_cons]
  by_cases h : p c = true
  ·rw [if_pos h, List.all_cons, h, ih]; rfl
  ·simp [h]
theorem ql_le : ∀ (f : Nat) (l t : List UInt8) (m : Nat), ql f l = some (t, m) → 1 ≤ m ∧ m ≤ l.length
 | 0, l, t, m, h => by cases h
 | f + 1, [], t, m, h => by cases h
 | f + 1, c :: r, t, m, h => by
  unfold ql at h
  split at h
  ·injection h with h; injection h with _ h; simp; omega
  ·split at h
   ·cases h
   ·rename_i b n hp
    obtain ⟨p1, p2⟩ := pc_pos hp
    split at h
    ·cases h
    ·rename_i t' m' hq
     have ih := ql_le f _ t' m' hq
     rw [List.length_drop] at ih
     injection h with h; injection h with _ h; omega
theorem quo_le {r t : List UInt8} {n : Nat} (h : quo r = some (t, n)) : 2 ≤ n ∧ n ≤ r.length + 1 := by
 unfold quo at h
 split at h
 ·cases h
 ·rename_i t' m' hq
  have := ql_le _ _ _ _ hq
  split at h
  ·injection h with h; injection h with _ h; omega
  ·cases h
theorem sgn_le (c : UInt8) (r : List UInt8) : sgn (c :: r) ≤ r.length + 1 ∧ sgn (c :: r) ≤ 2 := by
 unfold sgn
 by_cases h : (c :: r).take 2 ∈ twoSigns
 ·rw [if_pos h]
  have := two_len _ h
  rw [List.length_take, List.length_cons] at this; omega
 ·rw [if_neg h]; simp only; split <;> omega
theorem tok_le (l : List UInt8) : (tok l).2.1 ≤ l.length := by
 cases l with
 | nil => exact Nat.zero_le _
 | cons c r =>
  show (tokC c r).2.1 ≤ _
  have h1 := tw_le isW (c :: r)
  have h2 := tw_le isD (c :: r)
  have h3 := (sgn_le c r).1
  unfold tokC
  split
  ·split
   ·exact Nat.zero_le _
   ·split <;> exact h1
  ·split
   ·split
    ·exact h2
    ·exact Nat.zero_le _
   ·split
    ·cases hq : quo r with
     | none => exact Nat.zero_le _
     | some z => obtain ⟨t, n⟩ := z; have := (quo_le hq).2; exact this
    ·split
     ·exact Nat.zero_le _
     ·exact h3
theorem run_word (s : ByteArray) (hs : s.size ≤ 1048576) : lex_run.f s 0 79 = some (((L s).takeWhile isW).length : Int) := by
 unfold lex_run.f
 rw [if_pos ⟨by omega, by omega, by omega⟩]
 have e1 : fnP 79 = some (fun c => isLetter c || isDigit c) := by unfold fnP; simp
 rw [e1]; rfl
theorem run_digit (s : ByteArray) (hs : s.size ≤ 1048576) : lex_run.f s 0 80 = some (((L s).takeWhile isD).length : Int) := by
 unfold lex_run.f
 rw [if_pos ⟨by omega, by omega, by omega⟩]
 have e1 : fnP 80 = some isDigit := by unfold fnP; simp
 rw [e1]; rfl
def tokI (x : Nat × Nat × Nat) : Int × Int × Int := (x.1, x.2.1, x.2.2)
theorem ltoken (s : ByteArray) (hs : s.size ≤ 1048576) (hne : L s ≠ []) : Ev (fun k => lex_token.f k s) (tokI (tok (L s))) := by
 cases h : L s with
 | nil => exact absurd h hne
 | cons c r =>
  obtain ⟨hb0, hi0⟩ := bt_drop (i := 0) (s := s) (c := c) (r := r) (by simpa using h)
  have hb0 : bt s 0 = (c.toNat : Int) := hb0
  have hsz : s.size = (c :: r).length := by rw [size_eq_L, h]
  unfold lex_token.f
  refine Ev.ite_pos (by omega) ?_
  rw [hb0]
  refine Ev.bind_now (lletter c) ?_
  show Ev _ (tokI (tokC c r))
  unfold tokC
  by_cases h1 : isL c = true
  ·refine Ev.ite_pos h1 (Ev.bind_now (run_word s hs) ?_)
   rw [if_pos h1, h]
   have hle := tw_le isW (c :: r)
   have e0 : ∀ n : Nat, L (s.extract 0 (n : Int).toNat) = (c :: r).take n := fun n => by rw [L_extract, h]; simp
   generalize ((c :: r).takeWhile isW).length = n at *
   (try simp only)
   by_cases h2 : 32 < n
   ·exact Ev.ite_pos (by omega) (Ev.some_ (by rw [if_pos h2]; rfl))
   refine Ev.ite_neg (by omega) (Ev.ite_pos (by omega) (Ev.ite_pos (by omega) (Ev.bind_now (lkey _) ?_)))
   rw [e0, if_neg h2]
   by_cases h3 : (c :: r).take n ∈ keyTexts
   ·exact Ev.ite_pos (decide_eq_true h3) (Ev.some_ (by rw [if_pos h3]; rfl))
   ·exact Ev.ite_neg (by rw [decide_eq_false h3]; simp) (Ev.some_ (by rw [if_neg h3]; rfl))
  refine Ev.ite_neg h1 (Ev.bind_now (ldigit c) ?_)
  rw [if_neg h1]
  by_cases h2 : isD c = true
  ·refine Ev.ite_pos h2 (Ev.bind_now (run_digit s hs) ?_)
   rw [if_pos h2, h]
   have hle := tw_le isD (c :: r)
   have hall := tw_all isD (c :: r)
   have htk := tw_take isD (c :: r)
   have hpos : 1 ≤ ((c :: r).takeWhile isD).length := by rw [List.takeWhile_cons, h2]; simp
   rw [← htk] at hall
   clear htk
   generalize ((c :: r).takeWhile isD).length = n at *
   have e0 : L (s.extract 0 (n : Int).toNat) = (c :: r).take n := by rw [L_extract, h]; simp
   have hsz0 : (s.extract 0 (n : Int).toNat).size ≤ 1048576 := by rw [size_eq_L, e0, List.length_take]; omega
   have hne0 : L (s.extract 0 (n : Int).toNat) ≠ [] := by rw [e0]; cases n with | zero => omega | succ n => simp
   obtain ⟨v, hw, _⟩ := lwhole (s.extract 0 (n : Int).toNat) hsz0 (by rw [e0]; exact hall) hne0
   rw [e0] at hw
   (try simp only)
   refine Ev.ite_pos (by omega) (Ev.ite_pos (by omega) (Ev.bind_now hw ?_))
   have hj : ∀ b : Bool, b = !(numOk ((c :: r).take n) && !headL ((c :: r).drop n)) → Ev (fun k => lex_token.j0 k n b) (tokI (if (numOk ((c :: r).take n) && !headL ((c :: r).drop n)) = true then (2, n, 0) else (0, 0, 121))) := fun b hb => by
    refine Ev.step (fun k => lex_token.j0.eq_2 _ _ k) ?_
    cases hq : (numOk ((c :: r).take n) && !headL ((c :: r).drop n)) with
    | true => exact Ev.ite_neg (by rw [hb, hq]; simp) (Ev.some_ rfl)
    | false => exact Ev.ite_pos (by rw [hb, hq]; rfl) (Ev.some_ rfl)
   cases hn : numOk ((c :: r).take n) with
   | false =>
    refine Ev.ite_neg (by simp) ?_
    rw [hn] at hj; exact hj _ (by simp)
   | true =>
    rw [hn] at hj
    refine Ev.ite_pos rfl ?_
    cases hd : (c :: r).drop n with
    | nil =>
     have := drop_none hd
     rw [hd] at hj
     exact Ev.ite_neg (by omega) (hj _ (by simp [headL]))
    | cons d t =>
     obtain ⟨hbd, hid⟩ := bt_drop (s := s) (i := n) (c := d) (r := t) (by rw [h]; exact hd)
     rw [hd] at hj
     refine Ev.ite_pos (by omega) ?_
     rw [hbd]
     exact Ev.bind_now (lletter d) (hj _ (by simp [headL]))
  refine Ev.ite_neg h2 ?_
  rw [if_neg h2]
  by_cases h3 : c.toNat = 34
  ·refine Ev.ite_pos (by omega) ?_
   rw [if_pos h3]
   have hq := lquoted s hs
   rw [h] at hq
   simp only [if_pos h3] at hq
   refine Ev.bind hq ?_
   cases hx : quo r with
   | none => exact Ev.ite_pos rfl (Ev.some_ rfl)
   | some z =>
    obtain ⟨t, n⟩ := z
    have := quo_le hx
    exact Ev.ite_neg (by simp only; omega) (Ev.some_ rfl)
  ·refine Ev.ite_neg (by omega) ?_
   rw [if_neg h3]
   refine Ev.bind_now (lsign s (by rw [h]; simp)) ?_
   rw [h]
   by_cases h4 : sgn (c :: r) = 0
   ·exact Ev.ite_pos (by omega) (Ev.some_ (by rw [if_pos h4]; rfl))
   ·exact Ev.ite_neg (by omega) (Ev.some_ (by rw [if_neg h4]; rfl))
def tokR (i : Nat) (x : Nat × Nat × Nat) : Int × Int × Int × Int := if x.2.2 = 0 then (x.1, i, ((i + x.2.1 : Nat) : Int), 0) else (0, i, 0, x.2.2)
def nxt (l : List UInt8) (i : Nat) : Int × Int × Int × Int :=
 let g := i + gapL false (l.drop i)
 if g = l.length then (0, g, g, 0) else tokR g (tok (l.drop g))
def nxtI (s : ByteArray) (at_ : Int) : Int × Int × Int × Int :=
 if s.size > 65536 then (0, 0, 0, 3) else if at_ < 0 ∨ at_ > s.size then (0, 0, 0, 1) else nxt (L s) at_.toNat
theorem gap_le (s : ByteArray) (i : Nat) (hi : i ≤ s.size) : i + gapL false ((L s).drop i) ≤ s.size := by
 have := gapL_le ((L s).drop i) false
 rw [List.length_drop, L_length] at this; omega
theorem lnext (s : ByteArray) (hs : s.size ≤ 1048576) (a : Int) : Ev (fun k => lex_Next.f k s a) (nxtI s a) := by
 unfold lex_Next.f nxtI
 by_cases h1 : s.size > 65536
 ·exact Ev.ite_pos (by omega) (Ev.some_ (by rw [if_pos h1]))
 refine Ev.ite_neg (by omega) ?_
 rw [if_neg h1]
 by_cases h2 : a < 0
 ·exact Ev.ite_pos h2 (Ev.some_ (by rw [if_pos (Or.inl h2)]))
 refine Ev.ite_neg h2 ?_
 by_cases h3 : a > s.size
 ·exact Ev.ite_pos h3 (Ev.some_ (by rw [if_pos (Or.inr h3)]))
 refine Ev.ite_neg h3 ?_
 rw [if_neg (by omega)]
 obtain ⟨i, rfl⟩ : ∃ i : Nat, a = (i : Int) := ⟨a.toNat, by omega⟩
 refine Ev.bind (lgap s hs i (by omega)) ?_
 simp only [nxt, Int.toNat_natCast]
 have hg := gap_le s i (by omega)
 generalize i + gapL false ((L s).drop i) = g at *
 rw [L_length]
 by_cases h4 : g = s.size
 ·exact Ev.ite_pos (by omega) (Ev.some_ (by rw [if_pos h4]))
 refine Ev.ite_neg (by omega) (Ev.ite_pos (by omega) (Ev.ite_pos (by omega) ?_))
 rw [if_neg h4]
 have eg : ((g : Int)).toNat = g := by omega
 have e0 : L (s.extract g s.size) = (L s).drop g := by rw [L_extract, List.take_of_length_le]; rw [List.length_drop, L_length]; omega
 have hsz0 : (s.extract g s.size).size ≤ 1048576 := by rw [size_eq_L, e0, List.length_drop, L_length]; omega
 (try rw [eg])
 have ht := ltoken (s.extract g s.size) hsz0 (by rw [e0]; intro hx; have := drop_none hx; rw [L_length] at this; omega)
 rw [e0] at ht
 refine Ev.bind ht ?_
 have hle : (tok ((L s).drop g)).2.1 ≤ 4000000 := by
  have := tok_le ((L s).drop g)
  rw [List.length_drop, L_length] at this; omega
 unfold tokI tokR
 generalize tok ((L s).drop g) = x at *
 obtain ⟨x1, x2, x3⟩ := x
 simp only at hle ⊢
 by_cases h5 : x3 = 0
 ·refine Ev.ite_pos (by omega) (Ev.some_ ?_)
  rw [if_pos h5, wrap_id (by omega) (by omega)]
  simp
 ·exact Ev.ite_neg (by omega) (Ev.some_ (by rw [if_neg h5]))
theorem tok_ok (l : List UInt8) (h : (tok l).2.2 = 0) : 1 ≤ (tok l).2.1 ∧ 1 ≤ (tok l).1 ∧ (tok l).1 ≤ 5 := by
 cases l with
 | nil => simp [tok] at h
 | cons c r =>
  change (tokC c r).2.2 = 0 at h
  show 1 ≤ (tokC c r).2.1 ∧ 1 ≤ (tokC c r).1 ∧ (tokC c r).1 ≤ 5
  have hw : isL c = true → 1 ≤ ((c :: r).takeWhile isW).length := fun h1 => by
   rw [List.takeWhile_cons, if_pos (by unfold isW; rw [h1]; rfl)]; simp
  have hd : isD c = true → 1 ≤ ((c :: r).takeWhile isD).length := fun h1 => by
   rw [List.takeWhile_cons, if_pos h1]; simp
  unfold tokC at h ⊢
  by_cases h1 : isL c = true
  ·rw [if_pos h1] at h ⊢
   by_cases h2 : 32 < ((c :: r).takeWhile isW).length
   ·rw [if_pos h2] at h; cases h
   rw [if_neg h2] at h ⊢
   by_cases h3 : (c :: r).take ((c :: r).takeWhile isW).length ∈ keyTexts
   ·rw [if_pos h3]; exact ⟨hw h1, by simp, by simp⟩
   ·rw [if_neg h3]; exact ⟨hw h1, by simp, by simp⟩
  rw [if_neg h1] at h ⊢
  by_cases h2 : isD c = true
  ·rw [if_pos h2] at h ⊢
   by_cases h3 : (numOk ((c :: r).take ((c :: r).takeWhile isD).length) && !headL ((c :: r).drop ((c :: r).takeWhile isD).length)) = true
   ·rw [if_pos h3]; exact ⟨hd h2, by simp, by simp⟩
   ·rw [if_neg h3] at h; cases h
  rw [if_neg h2] at h ⊢
  by_cases h3 : c.toNat = 34
  ·rw [if_pos h3] at h ⊢
   cases hq : quo r with
   | none => rw [hq] at h; cases h
   | some z =>
    obtain ⟨t, n⟩ := z
    have := quo_le hq
    exact ⟨by simp only; omega, by simp, by simp⟩
  rw [if_neg h3] at h ⊢
  by_cases h4 : sgn (c :: r) = 0
  ·rw [if_pos h4] at h; cases h
  ·rw [if_neg h4]; exact ⟨by simp only; omega, by simp, by simp⟩
def nx (l : List UInt8) (i : Nat) : Nat × Nat × Nat × Nat :=
 if i + gapL false (l.drop i) = l.length then (0, l.length, l.length, 0)
 else if (tok (l.drop (i + gapL false (l.drop i)))).2.2 = 0 then ((tok (l.drop (i + gapL false (l.drop i)))).1, i + gapL false (l.drop i), i + gapL false (l.drop i) + (tok (l.drop (i + gapL false (l.drop i)))).2.1, 0)
 else (0, i + gapL false (l.drop i), 0, (tok (l.drop (i + gapL false (l.drop i)))).2.2)
def cast4 (x : Nat × Nat × Nat × Nat) : Int × Int × Int × Int := (x.1, x.2.1, x.2.2.1, x.2.2.2)
theorem nxt_nx (l : List UInt8) (i : Nat) : nxt l i = cast4 (nx l i) := by
 unfold nxt nx
 generalize i + gapL false (l.drop i) = g
 simp only
 by_cases h : g = l.length
 ·rw [if_pos h, if_pos h, h]; rfl
 rw [if_neg h, if_neg h]
 unfold tokR
 by_cases h2 : (tok (l.drop g)).2.2 = 0
 ·rw [if_pos h2, if_pos h2]; rfl
 ·rw [if_neg h2, if_neg h2]; rfl
theorem nx_adv (l : List UInt8) (i : Nat) (hi : i ≤ l.length) (he : (nx l i).2.2.2 = 0) (hk : (nx l i).1 ≠ 0) :
  i < (nx l i).2.2.1 ∧ (nx l i).2.2.1 ≤ l.length := by
 unfold nx at *
 have hg := gapL_le (l.drop i) false
 rw [List.length_drop] at hg
 generalize hgg : i + gapL false (l.drop i) = g at *
 by_cases h : g = l.length
 ·rw [if_pos h] at hk; exact absurd rfl hk
 rw [if_neg h] at he hk ⊢
 by_cases h2 : (tok (l.drop g)).2.2 = 0
 ·rw [if_pos h2]
  have := tok_ok _ h2
  have h3 := tok_le (l.drop g)
  rw [List.length_drop] at h3
  simp only
  omega
 ·rw [if_neg h2] at hk; exact absurd rfl hk
def just (l : List UInt8) (k : Nat) : Bool := decide (l ≠ []) && decide ((tok l).2.2 = 0) && decide ((tok l).1 = k) && decide ((tok l).2.1 = l.length)
theorem tw_eq_all (p : UInt8 → Bool) (l : List UInt8) : (l.takeWhile p).length = l.length ↔ l.all p = true := by
 constructor
 ·intro h
  have h1 := tw_take p l
  rw [h, List.take_length] at h1
  rw [h1]; exact tw_all p l
 ·intro h
  induction l with
  | nil => rfl
  | cons c r ih =>
   rw [List.all_cons, Bool.and_eq_true] at h
   rw [List.takeWhile_cons, if_pos h.1, List.length_cons, List.length_cons, ih h.2]
def textR (l : List UInt8) : ByteArray × Int := match l with
 | [] => (⟨#[]⟩, 122)
 | c :: r => if c.toNat = 34 then (match quo r with
   | none => (⟨#[]⟩, 122)
   | some (t, n) => if n = (c :: r).length then (mkB t, 0) else (⟨#[]⟩, 122)) else (⟨#[]⟩, 122)
theorem ltext (s : ByteArray) (hs : s.size ≤ 1048576) : Ev (fun k => lex_Text.f k s) (textR (L s)) := by
 unfold lex_Text.f
 refine Ev.bind (lquoted s hs) ?_
 have hz := size_eq_L s
 unfold textR
 cases h : L s with
 | nil => exact Ev.ite_pos rfl (Ev.some_ rfl)
 | cons c r =>
  rw [h] at hz
  simp only
  by_cases hq : c.toNat = 34
  ·rw [if_pos hq, if_pos hq]
   cases hx : quo r with
   | none => exact Ev.ite_pos rfl (Ev.some_ rfl)
   | some z =>
    obtain ⟨t, n⟩ := z
    have := quo_le hx
    simp only
    refine Ev.ite_neg (by omega) ?_
    by_cases hn : n = (c :: r).length
    ·exact Ev.ite_pos (by omega) (Ev.some_ (by rw [if_pos hn]))
    ·exact Ev.ite_neg (by omega) (Ev.some_ (by rw [if_neg hn]))
  ·rw [if_neg hq, if_neg hq]
   exact Ev.ite_pos rfl (Ev.some_ rfl)
theorem rtext (s : ByteArray) (hs : s.size ≤ 1048576) : Ev (fun k => treadleref12_Text.f k s) (textR (L s)) := by
 unfold treadleref12_Text.f
 have hz := size_eq_L s
 have jt : ∀ b : Bool, b = true → Ev (fun k => treadleref12_Text.j0 k s b) (⟨#[]⟩, 122) := fun b hb =>
  Ev.step (fun k => treadleref12_Text.j0.eq_2 _ _ k) (Ev.ite_pos hb (Ev.some_ rfl))
 unfold textR
 cases h : L s with
 | nil => rw [h] at hz; exact Ev.ite_pos (by rw [hz]; rfl) (jt _ rfl)
 | cons c r =>
  rw [h] at hz
  have hpos : 0 < s.size := by rw [hz]; simp
  obtain ⟨hb0, hi0⟩ := bt_drop (i := 0) (s := s) (c := c) (r := r) (by simpa using h)
  have hb0 : bt s 0 = (c.toNat : Int) := hb0
  refine Ev.ite_neg (by omega) (Ev.ite_pos (by omega) ?_)
  rw [hb0]
  by_cases hq : c.toNat = 34
  ·have e : ((c.toNat : Int) != 34) = false := by rw [bne_eq_false_iff_eq]; omega
   simp only
   rw [e, if_pos hq]
   refine Ev.step (fun k => treadleref12_Text.j0.eq_2 _ _ k) (Ev.ite_neg (by simp) ?_)
   refine Ev.bind (rquoted s hs 0 c r (by simpa using h)) ?_
   cases hx : quo r with
   | none => exact Ev.ite_neg (by simp only; omega) (Ev.some_ rfl)
   | some z =>
    obtain ⟨t, n⟩ := z
    simp only
    by_cases hn : n = (c :: r).length
    ·exact Ev.ite_pos (by omega) (Ev.some_ (by rw [if_pos hn]))
    ·exact Ev.ite_neg (by omega) (Ev.some_ (by rw [if_neg hn]))
  ·have e : ((c.toNat : Int) != 34) = true := by rw [bne_iff_ne]; omega
   simp only
   rw [if_neg hq]
   exact jt _ e
def nameOk (l : List UInt8) : Bool := match l with
 | [] => false
 | c :: r => decide ((c :: r).length ≤ 32) && isL c && (c :: r).all isW
theorem just_word (l : List UInt8) : just l 1 = (nameOk l && !decide (l ∈ keyTexts)) := by
 cases l with
 | nil => simp [just, nameOk]
 | cons c r =>
  unfold just
  have hN : nameOk (c :: r) = (decide ((c :: r).length ≤ 32) && isL c && (c :: r).all isW) := rfl
  rw [hN]
  show (decide (c :: r ≠ []) && decide ((tokC c r).2.2 = 0) && decide ((tokC c r).1 = 1) && decide ((tokC c r).2.1 = (c :: r).length)) = _
  have hne : decide (c :: r ≠ []) = true := by simp
  rw [hne, Bool.true_and]
  by_cases h1 : isL c = true
  ·unfold tokC
   rw [if_pos h1]
   by_cases ha : (c :: r).all isW = true
   ·have hn := (tw_eq_all isW (c :: r)).mpr ha
    rw [hn, List.take_length]
    simp only [h1, ha, Bool.and_true]
    by_cases h32 : 32 < (c :: r).length
    ·rw [if_pos h32, decide_eq_false (by omega : ¬ (c :: r).length ≤ 32)]; simp
    ·rw [if_neg h32, decide_eq_true (by omega : (c :: r).length ≤ 32)]
     by_cases hk : (c :: r) ∈ keyTexts
     ·rw [if_pos hk, decide_eq_true hk]; simp
     ·rw [if_neg hk, decide_eq_false hk]; simp
   ·have hn : ¬ ((c :: r).takeWhile isW).length = (c :: r).length := fun e => ha ((tw_eq_all isW (c :: r)).mp e)
    simp only [Bool.not_eq_true] at ha
    rw [ha, Bool.and_false, Bool.false_and]
    generalize ((c :: r).takeWhile isW).length = n at *
    split
    ·simp
    ·split
     ·simp
     ·rw [decide_eq_false hn]; simp
  ·have : ¬ (tokC c r).1 = 1 := by
    unfold tokC
    rw [if_neg h1]
    split
    ·split <;> simp
    ·split
     ·cases quo r with
      | none => simp
      | some z => obtain ⟨t, n⟩ := z; simp
     ·split <;> simp
   rw [decide_eq_false this]
   simp only [Bool.not_eq_true] at h1
   rw [h1]; simp
theorem rname_loop (s : ByteArray) (hs : s.size ≤ 1048576) : ∀ (r : List UInt8) (i : Nat), (L s).drop i = r → Ev (fun k => treadleref12_name.l0 k s i) (r.all isW)
 | [], i, h => by
  have := drop_none h; rw [L_length] at this
  exact Ev.step (fun k => treadleref12_name.l0.eq_2 _ _ k) (Ev.ite_neg (by omega) (Ev.some_ rfl))
 | c :: r, i, h => by
  obtain ⟨hb, hi⟩ := bt_drop h
  have ih := rname_loop s hs r (i + 1) (drop_some h).2.2
  refine Ev.step (fun k => treadleref12_name.l0.eq_2 _ _ k) (Ev.ite_pos (by omega) (Ev.ite_pos (by omega) ?_))
  rw [hb, wrap_succ (by omega), List.all_cons]
  refine Ev.bind_now (rletter c) ?_
  by_cases h1 : isL c = true
  ·refine Ev.ite_pos h1 (ih.eq ?_)
   unfold isW; rw [h1]; rfl
  refine Ev.ite_neg h1 (Ev.bind_now (rdigit c) ?_)
  by_cases h2 : isD c = true
  ·refine Ev.ite_pos h2 (ih.eq ?_)
   have : isW c = true := by unfold isW; rw [h2]; simp
   rw [this]; rfl
  ·refine Ev.ite_neg h2 (Ev.some_ ?_)
   have : isW c = false := by unfold isW; simp [h1, h2]
   rw [this]; rfl
theorem rname (s : ByteArray) (hs : s.size ≤ 1048576) : Ev (fun k => treadleref12_name.f k s) (nameOk (L s)) := by
 unfold treadleref12_name.f nameOk
 have hz := size_eq_L s
 have jt : ∀ b : Bool, b = true → Ev (fun k => treadleref12_name.j0 k s b) false := fun b hb =>
  Ev.step (fun k => treadleref12_name.j0.eq_2 _ _ k) (Ev.ite_pos hb (Ev.some_ rfl))
 cases h : L s with
 | nil => rw [h] at hz; exact Ev.ite_pos (by rw [hz]; rfl) (jt _ rfl)
 | cons c r =>
  rw [h] at hz
  have hpos : 0 < s.size := by rw [hz]; simp
  obtain ⟨hb0, hi0⟩ := bt_drop (i := 0) (s := s) (c := c) (r := r) (by simpa using h)
  have hb0 : bt s 0 = (c.toNat : Int) := hb0
  refine Ev.ite_neg (by omega) ?_
  simp only
  by_cases h32 : (c :: r).length ≤ 32
  ·refine Ev.ite_neg (by omega) (Ev.ite_pos (by omega) ?_)
   rw [hb0, decide_eq_true h32]
   refine Ev.bind_now (rletter c) ?_
   cases h1 : isL c with
   | false => exact (jt _ rfl).eq (by simp)
   | true =>
    refine Ev.step (fun k => treadleref12_name.j0.eq_2 _ _ k) (Ev.ite_neg (by simp) ?_)
    exact (rname_loop s hs (c :: r) 0 (by simpa using h)).eq (by simp)
  ·rw [decide_eq_false h32]
   exact Ev.ite_pos (by omega) (jt _ rfl)
def hx (n : Nat) : UInt8 := UInt8.ofNat (if n < 10 then 48 + n else 87 + n)
def enc (c : UInt8) : List UInt8 :=
 if c.toNat = 10 then [92, 110] else if c.toNat = 9 then [92, 116] else if c.toNat = 34 ∨ c.toNat = 92 then [92, c]
 else if c.toNat < 32 ∨ 126 < c.toNat then [92, 120, hx (c.toNat / 16), hx (c.toNat % 16)] else [c]
def quoteR (s : ByteArray) : ByteArray × Int := if s.size > 4096 then (⟨#[]⟩, 3) else (mkB (34 :: ((L s).flatMap enc ++ [34])), 0)
theorem tw_cut (p : UInt8 → Bool) : ∀ (l : List UInt8) (m : Nat), (l.takeWhile p).length ≤ m → (l.take m).takeWhile p = l.takeWhile p
 | [], m, _ => by simp
 | c :: r, 0, h => by
  rw [List.takeWhile_cons] at h ⊢
  cases hc : p c with
  | true => rw [hc] at h; simp at h
  | false => simp
 | c :: r, m + 1, h => by
  rw [List.take_succ_cons, List.takeWhile_cons, List.takeWhile_cons]
  rw [List.takeWhile_cons] at h
  cases hc : p c with
  | true =>
   rw [hc] at h
   simp only [if_true, List.length_cons] at h
   rw [if_pos rfl, if_pos rfl, tw_cut p r m (by omega)]
  | false => rfl
theorem pc_cut {l : List UInt8} {b : UInt8} {n m : Nat} (h : pc l = some (b, n)) (hm : n ≤ m) : pc (l.take m) = some (b, n) := by
 cases l with
 | nil => cases h
 | cons c r =>
  have hp := (pc_pos h).1
  obtain ⟨m, rfl⟩ : ∃ m', m = m' + 1 := ⟨m - 1, by omega⟩
  rw [List.take_succ_cons]
  simp only [pc] at h ⊢
  by_cases h1 : c.toNat = 92
  ·rw [if_pos h1] at h ⊢
   cases r with
   | nil => cases h
   | cons d r =>
    simp only at h
    by_cases d1 : d.toNat = 110
    ·rw [if_pos d1] at h
     have h0 := h
     injection h with h'; injection h' with _ h3
     obtain ⟨m, rfl⟩ : ∃ m', m = m' + 1 := ⟨m - 1, by omega⟩
     rw [List.take_succ_cons]; simp only; rw [if_pos d1]; exact h0
    rw [if_neg d1] at h
    by_cases d2 : d.toNat = 116
    ·rw [if_pos d2] at h
     have h0 := h
     injection h with h'; injection h' with _ h3
     obtain ⟨m, rfl⟩ : ∃ m', m = m' + 1 := ⟨m - 1, by omega⟩
     rw [List.take_succ_cons]; simp only; rw [if_neg d1, if_pos d2]; exact h0
    rw [if_neg d2] at h
    by_cases d3 : d.toNat = 34 ∨ d.toNat = 92
    ·rw [if_pos d3] at h
     have h0 := h
     injection h with h'; injection h' with _ h3
     obtain ⟨m, rfl⟩ : ∃ m', m = m' + 1 := ⟨m - 1, by omega⟩
     rw [List.take_succ_cons]; simp only; rw [if_neg d1, if_neg d2, if_pos d3]; exact h0
    rw [if_neg d3] at h
    by_cases d4 : d.toNat = 120
    ·rw [if_pos d4] at h
     match r, h with
     | [], h => cases h
     | [a], h => cases h
     | a :: b' :: r, h =>
      have h0 := h
      simp only at h
      split at h
      ·injection h with h'; injection h' with _ h3
       obtain ⟨m, rfl⟩ : ∃ m', m = m' + 3 := ⟨m - 3, by omega⟩
       rw [List.take_succ_cons, List.take_succ_cons, List.take_succ_cons]
       simp only
       rw [if_neg d1, if_neg d2, if_neg d3, if_pos d4]; exact h0
      ·cases h
    ·rw [if_neg d4] at h; cases h
  ·rw [if_neg h1] at h ⊢; exact h
theorem ql_cut : ∀ (f : Nat) (l t : List UInt8) (q m : Nat), ql f l = some (t, q) → q ≤ m → ql f (l.take m) = some (t, q)
 | 0, l, t, q, m, h, _ => by cases h
 | f + 1, [], t, q, m, h, _ => by cases h
 | f + 1, c :: r, t, q, m, h, hm => by
  have hq := ql_le _ _ _ _ h
  obtain ⟨m, rfl⟩ : ∃ m', m = m' + 1 := ⟨m - 1, by omega⟩
  rw [List.take_succ_cons]
  unfold ql at h ⊢
  by_cases h1 : c.toNat = 34
  ·rw [if_pos h1] at h ⊢; exact h
  rw [if_neg h1] at h ⊢
  cases hp : pc (c :: r) with
  | none => rw [hp] at h; cases h
  | some z =>
   obtain ⟨b, n⟩ := z
   rw [hp] at h
   simp only at h
   cases hx : ql f ((c :: r).drop n) with
   | none => rw [hx] at h; cases h
   | some z =>
    obtain ⟨t', q'⟩ := z
    rw [hx] at h
    simp only at h
    injection h with h'; injection h' with h1' h2'
    have hp' := pc_cut (m := m + 1) hp (by omega)
    rw [List.take_succ_cons] at hp'
    rw [hp']
    simp only
    have ih := ql_cut f _ t' q' (m + 1 - n) hx (by omega)
    have e : (c :: r.take m).drop n = ((c :: r).drop n).take (m + 1 - n) := by
     rw [← List.take_succ_cons, List.drop_take]
    rw [e, ih]
    simp only
    rw [h1', h2']
theorem quo_cut {r t : List UInt8} {n m : Nat} (h : quo r = some (t, n)) (hm : n ≤ m + 1) : quo (r.take m) = some (t, n) := by
 unfold quo at h ⊢
 cases hx : ql (r.length + 1) r with
 | none => rw [hx] at h; cases h
 | some z =>
  obtain ⟨t', q⟩ := z
  rw [hx] at h
  simp only at h
  split at h
  ·rename_i hle
   injection h with h'; injection h' with h1 h2
   have hc := ql_cut _ _ _ _ m hx (by omega)
   rw [ql_fuel (r.length + 1) ((r.take m).length + 1) (r.take m) (by rw [List.length_take]; omega) (by omega)] at hc
   rw [hc]
   simp only
   rw [if_pos hle, h1, h2]
  ·cases h
theorem tok_cut (l : List UInt8) (m : Nat) (h : (tok l).2.2 = 0) (hm : (tok l).2.1 ≤ m) : tok (l.take m) = tok l := by
 have hpos := (tok_ok l h).1
 cases l with
 | nil => cases h
 | cons c r =>
  obtain ⟨m, rfl⟩ : ∃ m', m = m' + 1 := ⟨m - 1, by omega⟩
  rw [List.take_succ_cons]
  show tokC c (r.take m) = tokC c r
  change (tokC c r).2.2 = 0 at h
  change (tokC c r).2.1 ≤ m + 1 at hm
  have et : c :: r.take m = (c :: r).take (m + 1) := by rw [List.take_succ_cons]
  unfold tokC at h hm ⊢
  rw [et]
  by_cases h1 : isL c = true
  ·rw [if_pos h1] at h hm ⊢
   rw [if_pos h1]
   have hle : ((c :: r).takeWhile isW).length ≤ m + 1 := by
    by_cases h2 : 32 < ((c :: r).takeWhile isW).length
    ·rw [if_pos h2] at h; cases h
    rw [if_neg h2] at hm
    split at hm <;> exact hm
   rw [tw_cut isW _ _ hle, List.take_take, Nat.min_eq_left hle]
  rw [if_neg h1] at h hm ⊢
  rw [if_neg h1]
  by_cases h2 : isD c = true
  ·rw [if_pos h2] at h hm ⊢
   rw [if_pos h2]
   by_cases h3 : (numOk ((c :: r).take ((c :: r).takeWhile isD).length) && !headL ((c :: r).drop ((c :: r).takeWhile isD).length)) = true
   ·rw [if_pos h3] at hm ⊢
    simp only at hm
    rw [tw_cut isD _ _ hm, List.take_take, Nat.min_eq_left hm]
    generalize ((c :: r).takeWhile isD).length = n at *
    rw [Bool.and_eq_true] at h3
    have hh : headL (((c :: r).take (m + 1)).drop n) = false := by
     rw [List.drop_take]
     have h4 := h3.2
     cases hd : (c :: r).drop n with
     | nil => simp [headL]
     | cons d u =>
      rw [hd] at h4
      simp only [headL, Bool.not_eq_true'] at h4
      cases m + 1 - n with
      | zero => simp [headL]
      | succ q => rw [List.take_succ_cons]; simp only [headL]; exact h4
    rw [hh, h3.1]; rfl
   ·rw [if_neg h3] at h; cases h
  rw [if_neg h2] at h hm ⊢
  rw [if_neg h2]
  by_cases h3 : c.toNat = 34
  ·rw [if_pos h3] at h hm ⊢
   rw [if_pos h3]
   cases hq : quo r with
   | none => rw [hq] at h; cases h
   | some z =>
    obtain ⟨t, n⟩ := z
    rw [hq] at hm
    rw [quo_cut hq hm]
  rw [if_neg h3] at h hm ⊢
  rw [if_neg h3]
  by_cases h4 : sgn (c :: r) = 0
  ·rw [if_pos h4] at h; cases h
  rw [if_neg h4] at hm ⊢
  have e : sgn ((c :: r).take (m + 1)) = sgn (c :: r) := by
   simp only at hm
   unfold sgn at hm h4 ⊢
   by_cases ht : (c :: r).take 2 ∈ twoSigns
   ·rw [if_pos ht] at hm ⊢
    rw [List.take_take, Nat.min_eq_left hm, if_pos ht]
   ·rw [if_neg ht] at hm h4 ⊢
    have ht2 : ¬ ((c :: r).take (m + 1)).take 2 ∈ twoSigns := by
     rw [List.take_take]
     intro hx
     have := two_len _ hx
     rw [List.length_take] at this
     have hmin : min 2 (m + 1) = 2 := by omega
     rw [hmin] at hx; exact ht hx
    rw [if_neg ht2, List.take_succ_cons]
  rw [e, if_neg h4]
theorem nx_end (l : List UInt8) (i : Nat) (he : (nx l i).2.2.2 = 0) (hk : (nx l i).1 = 0) : (nx l i).2.1 = l.length ∧ (nx l i).2.2.1 = l.length := by
 unfold nx at *
 by_cases h : i + gapL false (l.drop i) = l.length
 ·rw [if_pos h]; exact ⟨rfl, rfl⟩
 rw [if_neg h] at he hk
 by_cases h2 : (tok (l.drop (i + gapL false (l.drop i)))).2.2 = 0
 ·rw [if_pos h2] at hk
  have := (tok_ok _ h2).2.1
  simp only at hk; omega
 ·rw [if_neg h2] at he; exact absurd he h2
theorem nx_tok (l : List UInt8) (i : Nat) (he : (nx l i).2.2.2 = 0) (hk : (nx l i).1 ≠ 0) :
  gapL false (l.drop (nx l i).2.1) = 0 ∧ (nx l i).2.1 < (nx l i).2.2.1 ∧ tok (l.drop (nx l i).2.1) = ((nx l i).1, (nx l i).2.2.1 - (nx l i).2.1, 0) := by
 have hga := gapL_after (l.drop i) false
 rw [List.drop_drop] at hga
 unfold nx at *
 generalize i + gapL false (l.drop i) = g at *
 by_cases h : g = l.length
 ·rw [if_pos h] at hk; exact absurd rfl hk
 rw [if_neg h] at he hk ⊢
 by_cases h2 : (tok (l.drop g)).2.2 = 0
 ·rw [if_pos h2]
  have h3 := (tok_ok _ h2).1
  refine ⟨hga, by simp only; omega, ?_⟩
  simp only
  generalize tok (l.drop g) = z at *
  obtain ⟨z1, z2, z3⟩ := z
  simp only at h2 h3 ⊢
  subst h2
  simp
 ·rw [if_neg h2] at he; exact absurd he h2
def fillB (n : Int) : List UInt8 :=
 if Int.tmod n 6 = 0 then [32] else if Int.tmod n 6 = 1 then [9] else if Int.tmod n 6 = 2 then [10] else if Int.tmod n 6 = 3 then [13]
 else if Int.tmod n 6 = 4 then [47, 47, 32, 120, 10] else if Int.tmod n 6 = 5 then [47, 47, 34, 10] else []
def fill (l : List Int) : List UInt8 := l.flatMap fillB ++ [32]
def incT : List UInt8 := [105, 110, 99, 108, 117, 100, 101]
def asT : List UInt8 := [97, 115]
def semT : List UInt8 := [59]
theorem tok_as : tok asT = (4, 2, 0) := by decide +kernel
theorem tok_sem : tok semT = (5, 1, 0) := by decide +kernel
theorem tok_self (l : List UInt8) (h : (tok l).2.2 = 0) : tok (l.take (tok l).2.1) = tok l := tok_cut l _ h (Nat.le_refl _)
def tx (l : List UInt8) (i : Nat) : List UInt8 := (l.drop (nx l i).2.1).take ((nx l i).2.2.1 - (nx l i).2.1)
theorem tx_tok (l : List UInt8) (i : Nat) (hi : i ≤ l.length) (he : (nx l i).2.2.2 = 0) (hk : (nx l i).1 ≠ 0) : tok (tx l i) = ((nx l i).1, (tx l i).length, 0) := by
 obtain ⟨_, h2, h3⟩ := nx_tok l i he hk
 have h4 := (nx_adv l i hi he hk).2
 have hself := tok_self (l.drop (nx l i).2.1) (by rw [h3])
 rw [h3] at hself
 unfold tx
 rw [hself, List.length_take, List.length_drop]
 congr 2
 omega
theorem tx_end (l : List UInt8) (i : Nat) (he : (nx l i).2.2.2 = 0) (hk : (nx l i).1 = 0) : tx l i = [] := by
 obtain ⟨h1, h2⟩ := nx_end l i he hk
 unfold tx
 rw [h1, h2]; simp
theorem kind_eq (l : List UInt8) (i k : Nat) (t : List UInt8) (hi : i ≤ l.length) (he : (nx l i).2.2.2 = 0) (hk : 1 ≤ k) (ht : (tok t).1 = k) (hne : t ≠ []) : ((nx l i).1 = k ∧ tx l i = t) ↔ tx l i = t := by
 refine ⟨fun h => h.2, fun h => ⟨?_, h⟩⟩
 by_cases h0 : (nx l i).1 = 0
 ·rw [tx_end l i he h0] at h; exact absurd h.symm hne
 ·have := tx_tok l i hi he h0
  rw [h] at this
  rw [this] at ht
  exact ht
theorem kind_word (l : List UInt8) (i : Nat) (hi : i ≤ l.length) (he : (nx l i).2.2.2 = 0) : ((nx l i).1 = 1) ↔ (nameOk (tx l i) && !decide (tx l i ∈ keyTexts)) = true := by
 rw [← just_word]
 by_cases h0 : (nx l i).1 = 0
 ·rw [tx_end l i he h0]; rw [h0]
  have : just [] 1 = false := by rfl
  rw [this]; simp
 ·have := tx_tok l i hi he h0
  have hne : tx l i ≠ [] := by
   intro h; rw [h] at this
   have h1 : tok [] = (0, 0, 120) := rfl
   rw [h1] at this; injection this with _ h2; injection h2 with _ h3; cases h3
  unfold just
  rw [this, decide_eq_true hne]
  simp
theorem kind_text (l : List UInt8) (i : Nat) (hi : i ≤ l.length) (he : (nx l i).2.2.2 = 0) : ((nx l i).1 = 3) ↔ (textR (tx l i)).2 = 0 := by
 by_cases h0 : (nx l i).1 = 0
 ·rw [tx_end l i he h0, h0]
  have : (textR []).2 = 122 := rfl
  rw [this]; constructor <;> intro h <;> cases h
 have ht := tx_tok l i hi he h0
 generalize tx l i = s at *
 generalize (nx l i).1 = k at *
 cases s with
 | nil => exact absurd ht (by intro h; have h1 : tok [] = (0, 0, 120) := rfl; rw [h1] at h; injection h with _ h2; injection h2 with _ h3; cases h3)
 | cons c r =>
  have ht' : tokC c r = (k, (c :: r).length, 0) := ht
  have h34 : ∀ c : UInt8, c.toNat = 34 → isL c = false ∧ isD c = false := by
   intro c hc
   have : c = 34 := by apply UInt8.toNat.inj; rw [hc]; rfl
   subst this; decide
  unfold textR
  simp only
  by_cases hq : c.toNat = 34
  ·rw [if_pos hq]
   obtain ⟨hl, hd⟩ := h34 c hq
   unfold tokC at ht'
   rw [if_neg (by simp [hl]), if_neg (by simp [hd]), if_pos hq] at ht'
   cases hx : quo r with
   | none => rw [hx] at ht'; simp only at ht'; injection ht' with _ h2; injection h2 with _ h3; cases h3
   | some z =>
    obtain ⟨t, n⟩ := z
    rw [hx] at ht'
    simp only at ht' ⊢
    injection ht' with h1 h2; injection h2 with h2 h3
    rw [if_pos h2, ← h1]
    simp
  ·rw [if_neg hq]
   refine ⟨fun h => ?_, fun h => by cases h⟩
   exfalso
   subst h
   unfold tokC at ht'
   rw [if_neg hq] at ht'
   split at ht'
   ·split at ht'
    ·injection ht' with h1; cases h1
    ·split at ht' <;> (injection ht' with h1; cases h1)
   ·split at ht'
    ·split at ht' <;> (injection ht' with h1; cases h1)
    ·split at ht' <;> (injection ht' with h1; cases h1)
def begins (l : List UInt8) (i : Nat) : Bool := decide ((nx l i).2.2.2 = 0) && decide ((nx l i).1 = 4) && decide (tx l i = incT)
def fit (place : Nat) (s : List UInt8) : Bool := if place = 1 then decide ((textR s).2 = 0) else if place = 2 then decide (s = asT) else if place = 3 then nameOk s && !decide (s ∈ keyTexts) else decide (s = semT)
def wE (l : List UInt8) (i place : Nat) : Nat := if (nx l i).2.2.2 ≠ 0 then (nx l i).2.2.2 else if fit place (tx l i) = true then 0 else 130
def tt (l : List UInt8) (i : Nat) : Nat := (nx l i).2.2.1
def fr (l : List UInt8) (i : Nat) : Nat := (nx l i).2.1
def stepE (l : List UInt8) (i : Nat) : Nat × Nat × Nat :=
 if wE l (tt l i) 1 ≠ 0 then (wE l (tt l i) 1, fr l (tt l i), 0)
 else if wE l (tt l (tt l i)) 2 ≠ 0 then (wE l (tt l (tt l i)) 2, fr l (tt l (tt l i)), 0)
 else if wE l (tt l (tt l (tt l i))) 3 ≠ 0 then (wE l (tt l (tt l (tt l i))) 3, fr l (tt l (tt l (tt l i))), 0)
 else if wE l (tt l (tt l (tt l (tt l i)))) 4 ≠ 0 then (wE l (tt l (tt l (tt l (tt l i)))) 4, fr l (tt l (tt l (tt l (tt l i)))), 0)
 else (0, 0, tt l (tt l (tt l (tt l (tt l i)))))
def stepP (l : List UInt8) (i : Nat) : ByteArray := (textR (tx l (tt l i))).1
def stepN (l : List UInt8) (i : Nat) : ByteArray := mkB (tx l (tt l (tt l (tt l i))))
theorem wE_ok {l : List UInt8} {i p : Nat} (hi : i ≤ l.length) (h : wE l i p = 0) : (nx l i).2.2.2 = 0 ∧ fit p (tx l i) = true ∧ (1 ≤ p → i < tt l i) ∧ tt l i ≤ l.length := by
 unfold wE at h
 by_cases he : (nx l i).2.2.2 ≠ 0
 ·rw [if_pos he] at h; exact absurd h he
 rw [if_neg he] at h
 have he' : (nx l i).2.2.2 = 0 := by omega
 by_cases hf : fit p (tx l i) = true
 ·refine ⟨he', hf, ?_⟩
  have hk : (nx l i).1 ≠ 0 := by
   intro h0
   rw [tx_end l i he' h0] at hf
   unfold fit at hf
   split at hf
   ·cases hf
   ·split at hf
    ·cases hf
    ·split at hf
     ·cases hf
     ·cases hf
  have := nx_adv l i hi he' hk
  exact ⟨fun _ => this.1, this.2⟩
 ·rw [if_neg hf] at h; cases h
theorem begins_adv {l : List UInt8} {i : Nat} (hi : i ≤ l.length) (h : begins l i = true) : i < tt l i ∧ tt l i ≤ l.length ∧ (nx l i).2.2.2 = 0 ∧ tx l i = incT := by
 unfold begins at h
 simp only [Bool.and_eq_true, decide_eq_true_eq] at h
 obtain ⟨⟨h1, h2⟩, h3⟩ := h
 have := nx_adv l i hi h1 (by omega)
 exact ⟨this.1, this.2, h1, h3⟩
theorem stepE_cases (l : List UInt8) (i : Nat) :
  (wE l (tt l i) 1 ≠ 0 ∧ stepE l i = (wE l (tt l i) 1, fr l (tt l i), 0)) ∨
  (wE l (tt l i) 1 = 0 ∧ wE l (tt l (tt l i)) 2 ≠ 0 ∧ stepE l i = (wE l (tt l (tt l i)) 2, fr l (tt l (tt l i)), 0)) ∨
  (wE l (tt l i) 1 = 0 ∧ wE l (tt l (tt l i)) 2 = 0 ∧ wE l (tt l (tt l (tt l i))) 3 ≠ 0 ∧ stepE l i = (wE l (tt l (tt l (tt l i))) 3, fr l (tt l (tt l (tt l i))), 0)) ∨
  (wE l (tt l i) 1 = 0 ∧ wE l (tt l (tt l i)) 2 = 0 ∧ wE l (tt l (tt l (tt l i))) 3 = 0 ∧ wE l (tt l (tt l (tt l (tt l i)))) 4 ≠ 0 ∧ stepE l i = (wE l (tt l (tt l (tt l (tt l i)))) 4, fr l (tt l (tt l (tt l (tt l i)))), 0)) ∨
  (wE l (tt l i) 1 = 0 ∧ wE l (tt l (tt l i)) 2 = 0 ∧ wE l (tt l (tt l (tt l i))) 3 = 0 ∧ wE l (tt l (tt l (tt l (tt l i)))) 4 = 0 ∧ stepE l i = (0, 0, tt l (tt l (tt l (tt l (tt l i)))))) := by
 unfold stepE
 generalize wE l (tt l i) 1 = e1
 generalize wE l (tt l (tt l i)) 2 = e2
 generalize wE l (tt l (tt l (tt l i))) 3 = e3
 generalize wE l (tt l (tt l (tt l (tt l i)))) 4 = e4
 by_cases h1 : e1 = 0
 ·by_cases h2 : e2 = 0
  ·by_cases h3 : e3 = 0
   ·by_cases h4 : e4 = 0
    ·exact .inr (.inr (.inr (.inr ⟨h1, h2, h3, h4, by rw [if_neg (fun h => h h1), if_neg (fun h => h h2), if_neg (fun h => h h3), if_neg (fun h => h h4)]⟩)))
    ·exact .inr (.inr (.inr (.inl ⟨h1, h2, h3, h4, by rw [if_neg (fun h => h h1), if_neg (fun h => h h2), if_neg (fun h => h h3), if_pos h4]⟩)))
   ·exact .inr (.inr (.inl ⟨h1, h2, h3, by rw [if_neg (fun h => h h1), if_neg (fun h => h h2), if_pos h3]⟩))
  ·exact .inr (.inl ⟨h1, h2, by rw [if_neg (fun h => h h1), if_pos h2]⟩)
 ·exact .inl ⟨h1, by rw [if_pos h1]⟩
theorem stepE_ok {l : List UInt8} {i : Nat} (hi : i ≤ l.length) (hb : begins l i = true) (h : (stepE l i).1 = 0) :
  i < (stepE l i).2.2 ∧ (stepE l i).2.2 ≤ l.length := by
 obtain ⟨b1, b2, _, _⟩ := begins_adv hi hb
 rcases stepE_cases l i with ⟨e, hs⟩ | ⟨_, e, hs⟩ | ⟨_, _, e, hs⟩ | ⟨_, _, _, e, hs⟩ | ⟨e1, e2, e3, e4, hs⟩
 ·rw [hs] at h; simp only at h; exact absurd h e
 ·rw [hs] at h; simp only at h; exact absurd h e
 ·rw [hs] at h; simp only at h; exact absurd h e
 ·rw [hs] at h; simp only at h; exact absurd h e
 ·rw [hs]
  obtain ⟨_, _, p1, q1⟩ := wE_ok b2 e1
  obtain ⟨_, _, p2, q2⟩ := wE_ok q1 e2
  obtain ⟨_, _, p3, q3⟩ := wE_ok q2 e3
  obtain ⟨_, _, p4, q4⟩ := wE_ok q3 e4
  have p1 := p1 (Nat.le_refl _); have p2 := p2 (by decide); have p3 := p3 (by decide); have p4 := p4 (by decide)
  simp only
  exact ⟨Nat.lt_trans b1 (Nat.lt_trans p1 (Nat.lt_trans p2 (Nat.lt_trans p3 p4))), q4⟩
abbrev SI := S35
def incs : Nat → List UInt8 → Nat → List SI × Nat × Nat × Nat
 | 0, _, i => ([], i, 0, 0)
 | f + 1, l, i => if begins l i = true then
   if (stepE l i).1 ≠ 0 then ([], 0, (stepE l i).1, (stepE l i).2.1)
   else if (incs f l (stepE l i).2.2).2.2.1 ≠ 0 then ([], 0, (incs f l (stepE l i).2.2).2.2)
   else ((⟨stepP l i, stepN l i, (fr l i : Nat)⟩ : SI) :: (incs f l (stepE l i).2.2).1, (incs f l (stepE l i).2.2).2)
  else ([], i, 0, 0)
def resF (acc : List SI) (x : List SI × Nat × Nat × Nat) : List SI × Int × Int × Int :=
 if x.2.2.1 ≠ 0 then ([], 0, (x.2.2.1 : Nat), (x.2.2.2 : Nat)) else (acc ++ x.1, (x.2.1 : Nat), 0, 0)
def foundT (s : ByteArray) : List SI × Nat × Nat × Nat := if s.size > 65536 then ([], 0, 3, 0) else incs (s.size + 1) (L s) 0
theorem resF_step (acc : List SI) (f : Nat) (l : List UInt8) (i : Nat) (hb : begins l i = true) (he : (stepE l i).1 = 0) :
  resF acc (incs (f + 1) l i) = resF (acc ++ [(⟨stepP l i, stepN l i, (fr l i : Nat)⟩ : SI)]) (incs f l (stepE l i).2.2) := by
 conv => lhs; unfold incs
 rw [if_pos hb, if_neg (by omega)]
 unfold resF
 by_cases h : (incs f l (stepE l i).2.2).2.2.1 ≠ 0
 ·rw [if_pos h, if_pos h, if_pos h]
 ·rw [if_neg h, if_neg h, if_neg h]; simp
theorem resF_none (acc : List SI) (f : Nat) (l : List UInt8) (i : Nat) (hb : ¬ begins l i = true) : resF acc (incs (f + 1) l i) = (acc, ((i : Nat) : Int), (0 : Int), (0 : Int)) := by
 unfold incs; rw [if_neg hb]; unfold resF; rw [if_neg (by simp)]; simp
theorem resF_bad (acc : List SI) (f : Nat) (l : List UInt8) (i : Nat) (hb : begins l i = true) (he : (stepE l i).1 ≠ 0) : resF acc (incs (f + 1) l i) = (([] : List SI), (0 : Int), (((stepE l i).1 : Nat) : Int), (((stepE l i).2.1 : Nat) : Int)) := by
 unfold incs; rw [if_pos hb, if_pos he]; unfold resF; rw [if_pos (by exact he)]
theorem resF_bad2 (acc : List SI) (f : Nat) (l : List UInt8) (i e p q : Nat) (hb : begins l i = true) (hst : stepE l i = (e, p, q)) (he : e ≠ 0) : resF acc (incs (f + 1) l i) = (([] : List SI), (0 : Int), ((e : Nat) : Int), ((p : Nat) : Int)) := by
 have := resF_bad acc f l i hb (by rw [hst]; exact he)
 rw [hst] at this; exact this
theorem resF_step2 (acc : List SI) (f : Nat) (l : List UInt8) (i q : Nat) (hb : begins l i = true) (hst : stepE l i = (0, 0, q)) :
  resF acc (incs (f + 1) l i) = resF (acc ++ [(⟨stepP l i, stepN l i, (fr l i : Nat)⟩ : SI)]) (incs f l q) := by
 have := resF_step acc f l i hb (by rw [hst])
 rw [hst] at this; exact this
theorem stepE_ok2 {l : List UInt8} {i q : Nat} (hi : i ≤ l.length) (hb : begins l i = true) (hst : stepE l i = (0, 0, q)) : i < q ∧ q ≤ l.length := by
 have := stepE_ok hi hb (by rw [hst])
 rw [hst] at this; exact this
theorem nx_bd (l : List UInt8) (i : Nat) (hi : i ≤ l.length) (he : (nx l i).2.2.2 = 0) : (nx l i).2.1 ≤ (nx l i).2.2.1 ∧ (nx l i).2.2.1 ≤ l.length := by
 by_cases hk : (nx l i).1 = 0
 ·have := nx_end l i he hk; omega
 ·have := nx_adv l i hi he hk; have := nx_tok l i he hk; omega
theorem lnx (s : ByteArray) (hs : s.size ≤ 65536) (i : Nat) (hi : i ≤ s.size) : Ev (fun k => lex_Next.f k s i) (cast4 (nx (L s) i)) := by
 refine (lnext s (by omega) i).eq ?_
 unfold nxtI
 rw [if_neg (by omega), if_neg (by omega), nxt_nx]; rfl
theorem ext_tx (s : ByteArray) (i : Nat) : s.extract ((nx (L s) i).2.1 : Int).toNat ((nx (L s) i).2.2.1 : Int).toNat = mkB (tx (L s) i) := by
 apply L_inj
 rw [L_extract, L_mkB]; simp only [Int.toNat_natCast]; rfl
def nextR (s : ByteArray) (i : Nat) : Bool × Int × Int × Int × Int × Int × ByteArray × ByteArray × Int :=
 if (nx (L s) i).2.2.2 = 0 then (false, 0, 0, ((nx (L s) i).1 : Nat), ((nx (L s) i).2.1 : Nat), ((nx (L s) i).2.2.1 : Nat), mkB (tx (L s) i), s, ((nx (L s) i).2.2.1 : Nat))
 else (true, ((nx (L s) i).2.2.2 : Nat), ((nx (L s) i).2.1 : Nat), 0, 0, 0, ⟨#[]⟩, s, (i : Nat))
theorem lrnext (s : ByteArray) (hs : s.size ≤ 65536) (i : Nat) (hi : i ≤ s.size) : Ev (fun k => scan_reader_next.f k s i) (nextR s i) := by
 unfold scan_reader_next.f nextR
 refine Ev.bind (lnx s hs i hi) ?_
 have hL : (L s).length = s.size := L_length s
 simp only [cast4]
 by_cases he : (nx (L s) i).2.2.2 = 0
 ·have hb := nx_bd (L s) i (by omega) he
  rw [if_pos he]
  refine Ev.ite_pos (by omega) (Ev.ite_pos (by omega) (Ev.ite_pos (by omega) (Ev.ite_pos (by omega) (Ev.some_ ?_))))
  rw [ext_tx]
 ·rw [if_neg he]
  exact Ev.ite_neg (by omega) (Ev.some_ rfl)
def atR (s : ByteArray) (i : Nat) : Int := if (nx (L s) i).2.2.2 = 0 then ((tt (L s) i : Nat) : Int) else ((i : Nat) : Int)
def wantR (s : ByteArray) (i p : Nat) : Bool × Int × Int × ByteArray × ByteArray × Int :=
 if wE (L s) i p = 0 then (false, 0, 0, mkB (tx (L s) i), s, (tt (L s) i : Nat))
 else (true, (wE (L s) i p : Nat), (fr (L s) i : Nat), ⟨#[]⟩, s, atR s i)
def kOf (p : Nat) : Nat := if p = 1 then 3 else if p = 2 then 4 else if p = 3 then 1 else 5
def tOf (p : Nat) : List UInt8 := if p = 2 then asT else if p = 4 then semT else []
theorem fit_iff (l : List UInt8) (i p : Nat) (hi : i ≤ l.length) (he : (nx l i).2.2.2 = 0) (h1 : 1 ≤ p) (h4 : p ≤ 4) : fit p (tx l i) = true ↔ ((nx l i).1 = kOf p ∧ (tOf p = [] ∨ tx l i = tOf p)) := by
 have hp : p = 1 ∨ p = 2 ∨ p = 3 ∨ p = 4 := by omega
 rcases hp with rfl | rfl | rfl | rfl
 ·have := kind_text l i hi he
  have hf : fit 1 (tx l i) = true ↔ (textR (tx l i)).2 = 0 := by unfold fit; rw [if_pos rfl]; exact decide_eq_true_iff
  rw [hf]
  exact ⟨fun h => ⟨this.mpr h, Or.inl rfl⟩, fun h => this.mp h.1⟩
 ·have := kind_eq l i 4 asT hi he (by omega) (by rw [tok_as]) (by decide)
  have hf : fit 2 (tx l i) = true ↔ tx l i = asT := by unfold fit; rw [if_neg (by decide), if_pos rfl]; exact decide_eq_true_iff
  rw [hf]
  refine ⟨fun h => ⟨(this.mpr h).1, Or.inr h⟩, fun h => ?_⟩
  rcases h.2 with h2 | h2
  ·exact absurd h2 (by decide)
  ·exact h2
 ·have := kind_word l i hi he
  have hf : fit 3 (tx l i) = (nameOk (tx l i) && !decide (tx l i ∈ keyTexts)) := by unfold fit; rw [if_neg (by decide), if_neg (by decide), if_pos rfl]
  rw [hf]
  exact ⟨fun h => ⟨this.mpr h, Or.inl rfl⟩, fun h => this.mp h.1⟩
 ·have := kind_eq l i 5 semT hi he (by omega) (by rw [tok_sem]) (by decide)
  have hf : fit 4 (tx l i) = true ↔ tx l i = semT := by unfold fit; rw [if_neg (by decide), if_neg (by decide), if_neg (by decide)]; exact decide_eq_true_iff
  rw [hf]
  refine ⟨fun h => ⟨(this.mpr h).1, Or.inr h⟩, fun h => ?_⟩
  rcases h.2 with h2 | h2
  ·exact absurd h2 (by decide)
  ·exact h2
theorem lwant (s : ByteArray) (hs : s.size ≤ 65536) (i p : Nat) (hi : i ≤ s.size) (h1 : 1 ≤ p) (h4 : p ≤ 4) : Ev (fun k => scan_reader_want.f k s i (kOf p : Nat) (mkB (tOf p))) (wantR s i p) := by
 unfold scan_reader_want.f
 refine Ev.bind (lrnext s hs i hi) ?_
 have hL : (L s).length = s.size := L_length s
 unfold nextR wantR
 by_cases he : (nx (L s) i).2.2.2 = 0
 ·rw [if_pos he]
  have hf := fit_iff (L s) i p (by omega) he h1 h4
  have hw : wE (L s) i p = if fit p (tx (L s) i) = true then 0 else 130 := by unfold wE; rw [if_neg (by omega)]
  simp only
  refine Ev.ite_neg (by simp) ?_
  have bad : ¬ fit p (tx (L s) i) = true → (true, (130 : Int), ((nx (L s) i).2.1 : Int), (⟨#[]⟩ : ByteArray), s, ((nx (L s) i).2.2.1 : Int)) = (if wE (L s) i p = 0 then (false, 0, 0, mkB (tx (L s) i), s, (tt (L s) i : Int)) else (true, (wE (L s) i p : Int), (fr (L s) i : Int), (⟨#[]⟩ : ByteArray), s, atR s i)) := by
   intro h; unfold atR; rw [hw, if_neg h, if_neg (by omega), if_pos he]; rfl
  have good : fit p (tx (L s) i) = true → (false, (0 : Int), (0 : Int), mkB (tx (L s) i), s, ((nx (L s) i).2.2.1 : Int)) = (if wE (L s) i p = 0 then (false, 0, 0, mkB (tx (L s) i), s, (tt (L s) i : Int)) else (true, (wE (L s) i p : Int), (fr (L s) i : Int), (⟨#[]⟩ : ByteArray), s, atR s i)) := by
   intro h; rw [hw, if_pos h, if_pos rfl]; rfl
  by_cases hk : (nx (L s) i).1 = kOf p
  ·refine Ev.ite_pos (by omega) ?_
   simp only [toList_L, L_mkB]
   by_cases ht : tOf p = []
   ·exact Ev.ite_pos ht (Ev.some_ (good (hf.mpr ⟨hk, Or.inl ht⟩)))
   ·refine Ev.ite_neg ht ?_
    by_cases hx : tx (L s) i = tOf p
    ·exact Ev.ite_pos hx (Ev.some_ (good (hf.mpr ⟨hk, Or.inr hx⟩)))
    ·refine Ev.ite_neg hx (Ev.some_ (bad (fun h => ?_)))
     rcases (hf.mp h).2 with h2 | h2
     ·exact ht h2
     ·exact hx h2
  ·exact Ev.ite_neg (by omega) (Ev.some_ (bad (fun h => hk (hf.mp h).1)))
 ·rw [if_neg he]
  have hw : wE (L s) i p = (nx (L s) i).2.2.2 := by unfold wE; rw [if_pos he]
  refine Ev.ite_pos (by rfl) (Ev.some_ ?_)
  unfold atR
  rw [hw, if_neg he, if_neg he]; rfl
theorem tx_size (s : ByteArray) (i : Nat) : (mkB (tx (L s) i)).size ≤ s.size := by
 rw [size_eq_L, L_mkB, size_eq_L]
 unfold tx
 rw [List.length_take, List.length_drop]; omega
theorem linclude (s : ByteArray) (hs : s.size ≤ 65536) (i : Nat) (hi : i ≤ s.size) :
  (¬ begins (L s) i = true → Ev (fun k => scan_reader_include.f k s i) (false, 0, 0, ⟨#[]⟩, ⟨#[]⟩, 0, false, s, (i : Nat))) ∧
  (begins (L s) i = true → ∀ e p q : Nat, stepE (L s) i = (e, p, q) → e ≠ 0 → ∃ j : Int, Ev (fun k => scan_reader_include.f k s i) (true, (e : Int), (p : Int), ⟨#[]⟩, ⟨#[]⟩, 0, false, s, j)) ∧
  (begins (L s) i = true → ∀ q : Nat, stepE (L s) i = (0, 0, q) → Ev (fun k => scan_reader_include.f k s i) (false, 0, 0, stepP (L s) i, stepN (L s) i, (fr (L s) i : Nat), true, s, (q : Int))) := by
 have hL : (L s).length = s.size := L_length s
 have jt : ∀ (b : Bool) (x y z : Int), b = true → Ev (fun k => scan_reader_include.j0 k b s i x y z) (false, 0, 0, ⟨#[]⟩, ⟨#[]⟩, 0, false, s, (i : Nat)) := fun b x y z hb =>
  Ev.step (fun k => scan_reader_include.j0.eq_2 _ _ _ _ _ _ k) (Ev.ite_pos hb (Ev.some_ rfl))
 refine ⟨fun hb => ?_, ?_⟩
 ·unfold scan_reader_include.f
  refine Ev.bind (lnx s hs i hi) ?_
  simp only [cast4]
  by_cases he : (nx (L s) i).2.2.2 = 0
  ·have hbd := nx_bd (L s) i (by omega) he
   refine Ev.ite_pos (by omega) ?_
   by_cases hk : (nx (L s) i).1 = 4
   ·refine Ev.ite_pos (by omega) (Ev.ite_pos (by omega) (Ev.ite_pos (by omega) (Ev.ite_pos (by omega) ?_)))
    refine jt _ _ _ _ ?_
    rw [ext_tx, toList_L, L_mkB, bne_iff_ne]
    intro h
    apply hb
    unfold begins
    rw [decide_eq_true he, decide_eq_true hk, decide_eq_true (show tx (L s) i = incT from h)]; rfl
   ·exact Ev.ite_neg (by omega) (jt _ _ _ _ rfl)
  ·exact Ev.ite_neg (by omega) (jt _ _ _ _ rfl)
 suffices h : begins (L s) i = true → ∀ R, (Ev (fun k => (scan_reader_want.f k s (tt (L s) i : Nat) 3 ⟨#[]⟩).bind fun bt157 => (if bt157.1 = true then (some (true, bt157.2.1, bt157.2.2.1, (⟨#[]⟩ : ByteArray), (⟨#[]⟩ : ByteArray), (0 : Int), false, bt157.2.2.2.2.1, bt157.2.2.2.2.2)) else ((lex_Text.f k bt157.2.2.2.1).bind fun bt163 => ((scan_reader_want.f k bt157.2.2.2.2.1 bt157.2.2.2.2.2 4 (⟨#[97, 115]⟩ : ByteArray)).bind fun bt165 => (if bt165.1 = true then (some (true, bt165.2.1, bt165.2.2.1, (⟨#[]⟩ : ByteArray), (⟨#[]⟩ : ByteArray), (0 : Int), false, bt165.2.2.2.2.1, bt165.2.2.2.2.2)) else ((scan_reader_want.f k bt165.2.2.2.2.1 bt165.2.2.2.2.2 1 (⟨#[]⟩ : ByteArray)).bind fun bt171 => (if bt171.1 = true then (some (true, bt171.2.1, bt171.2.2.1, (⟨#[]⟩ : ByteArray), (⟨#[]⟩ : ByteArray), (0 : Int), false, bt171.2.2.2.2.1, bt171.2.2.2.2.2)) else ((scan_reader_want.f k bt171.2.2.2.2.1 bt171.2.2.2.2.2 5 (⟨#[59]⟩ : ByteArray)).bind fun bt177 => (if bt177.1 = true then (some (true, bt177.2.1, bt177.2.2.1, (⟨#[]⟩ : ByteArray), (⟨#[]⟩ : ByteArray), (0 : Int), false, bt177.2.2.2.2.1, bt177.2.2.2.2.2)) else (some (false, (0 : Int), (0 : Int), bt163.1, bt171.2.2.2.1, (fr (L s) i : Int), true, bt177.2.2.2.2.1, bt177.2.2.2.2.2))))))))))) R) → Ev (fun k => scan_reader_include.f k s i) R by
  obtain ⟨g1, g2⟩ : (begins (L s) i = true → tt (L s) i ≤ s.size) ∧ True := ⟨fun hb => by have := begins_adv (by omega) hb; omega, trivial⟩
  have w1 := fun (j : Nat) (hj : j ≤ s.size) => lwant s hs j 1 hj (by omega) (by omega)
  have w2 := fun (j : Nat) (hj : j ≤ s.size) => lwant s hs j 2 hj (by omega) (by omega)
  have w3 := fun (j : Nat) (hj : j ≤ s.size) => lwant s hs j 3 hj (by omega) (by omega)
  have w4 := fun (j : Nat) (hj : j ≤ s.size) => lwant s hs j 4 hj (by omega) (by omega)
  have tz : (mkB (tx (L s) (tt (L s) i))).size ≤ 1048576 := by have := tx_size s (tt (L s) i); omega
  rcases stepE_cases (L s) i with ⟨e1, hst⟩ | ⟨e1, e2, hst⟩ | ⟨e1, e2, e3, hst⟩ | ⟨e1, e2, e3, e4, hst⟩ | ⟨e1, e2, e3, e4, hst⟩
  ·refine ⟨fun hb e p q he _ => ?_, fun hb q he => ?_⟩
   rotate_left
   ·rw [hst, Prod.mk.injEq] at he; exact absurd he.1 e1
   rw [hst, Prod.mk.injEq, Prod.mk.injEq] at he
   obtain ⟨h1, h2, h3⟩ := he
   subst h1 h2
   refine ⟨atR s (tt (L s) i), h hb _ (Ev.bind (w1 _ (g1 hb)) ?_)⟩
   unfold wantR; rw [if_neg e1]
   refine Ev.ite_pos rfl (Ev.some_ ?_)
   dsimp only
  ·refine ⟨fun hb e p q he _ => ?_, fun hb q he => ?_⟩
   rotate_left
   ·rw [hst, Prod.mk.injEq] at he; exact absurd he.1 e2
   rw [hst, Prod.mk.injEq, Prod.mk.injEq] at he
   obtain ⟨h1, h2, h3⟩ := he
   subst h1 h2
   refine ⟨atR s (tt (L s) (tt (L s) i)), h hb _ (Ev.bind (w1 _ (g1 hb)) ?_)⟩
   have b1 := g1 hb
   obtain ⟨_, _, _, b2⟩ := wE_ok (by omega) e1
   unfold wantR; rw [if_pos e1]
   refine Ev.ite_neg (by simp) (Ev.bind (ltext _ tz) (Ev.bind (w2 _ (by omega)) ?_))
   unfold wantR; rw [if_neg e2]
   refine Ev.ite_pos rfl (Ev.some_ ?_)
   dsimp only
  ·refine ⟨fun hb e p q he _ => ?_, fun hb q he => ?_⟩
   rotate_left
   ·rw [hst, Prod.mk.injEq] at he; exact absurd he.1 e3
   rw [hst, Prod.mk.injEq, Prod.mk.injEq] at he
   obtain ⟨h1, h2, h3⟩ := he
   subst h1 h2
   refine ⟨atR s (tt (L s) (tt (L s) (tt (L s) i))), h hb _ (Ev.bind (w1 _ (g1 hb)) ?_)⟩
   have b1 := g1 hb
   obtain ⟨_, _, _, b2⟩ := wE_ok (by omega) e1
   obtain ⟨_, _, _, b3⟩ := wE_ok (by omega) e2
   unfold wantR; rw [if_pos e1]
   refine Ev.ite_neg (by simp) (Ev.bind (ltext _ tz) (Ev.bind (w2 _ (by omega)) ?_))
   unfold wantR; rw [if_pos e2]
   refine Ev.ite_neg (by simp) (Ev.bind (w3 _ (by omega)) ?_)
   unfold wantR; rw [if_neg e3]
   refine Ev.ite_pos rfl (Ev.some_ ?_)
   dsimp only
  ·refine ⟨fun hb e p q he _ => ?_, fun hb q he => ?_⟩
   rotate_left
   ·rw [hst, Prod.mk.injEq] at he; exact absurd he.1 e4
   rw [hst, Prod.mk.injEq, Prod.mk.injEq] at he
   obtain ⟨h1, h2, h3⟩ := he
   subst h1 h2
   refine ⟨atR s (tt (L s) (tt (L s) (tt (L s) (tt (L s) i)))), h hb _ (Ev.bind (w1 _ (g1 hb)) ?_)⟩
   have b1 := g1 hb
   obtain ⟨_, _, _, b2⟩ := wE_ok (by omega) e1
   obtain ⟨_, _, _, b3⟩ := wE_ok (by omega) e2
   obtain ⟨_, _, _, b4⟩ := wE_ok (by omega) e3
   unfold wantR; rw [if_pos e1]
   refine Ev.ite_neg (by simp) (Ev.bind (ltext _ tz) (Ev.bind (w2 _ (by omega)) ?_))
   unfold wantR; rw [if_pos e2]
   refine Ev.ite_neg (by simp) (Ev.bind (w3 _ (by omega)) ?_)
   unfold wantR; rw [if_pos e3]
   refine Ev.ite_neg (by simp) (Ev.bind (w4 _ (by omega)) ?_)
   unfold wantR; rw [if_neg e4]
   refine Ev.ite_pos rfl (Ev.some_ ?_)
   dsimp only
  ·refine ⟨fun hb e p q he h0 => ?_, fun hb q he => ?_⟩
   ·rw [hst, Prod.mk.injEq] at he; exact absurd he.1.symm h0
   rw [hst, Prod.mk.injEq, Prod.mk.injEq] at he
   obtain ⟨h1, h2, h3⟩ := he
   subst h3
   have b1 := g1 hb
   obtain ⟨_, _, _, b2⟩ := wE_ok (by omega) e1
   obtain ⟨_, _, _, b3⟩ := wE_ok (by omega) e2
   obtain ⟨_, _, _, b4⟩ := wE_ok (by omega) e3
   refine h hb _ (Ev.bind (w1 _ b1) ?_)
   unfold wantR; rw [if_pos e1]
   refine Ev.ite_neg (by simp) (Ev.bind (ltext _ tz) (Ev.bind (w2 _ (by omega)) ?_))
   unfold wantR; rw [if_pos e2]
   refine Ev.ite_neg (by simp) (Ev.bind (w3 _ (by omega)) ?_)
   unfold wantR; rw [if_pos e3]
   refine Ev.ite_neg (by simp) (Ev.bind (w4 _ (by omega)) ?_)
   unfold wantR; rw [if_pos e4]
   refine Ev.ite_neg (by simp) (Ev.some_ ?_)
   unfold stepP stepN
   rw [L_mkB]
 intro hb R hR
 obtain ⟨a1, a2, a3, a4⟩ := begins_adv (by omega) hb
 have hk : (nx (L s) i).1 = 4 := by unfold begins at hb; simp only [Bool.and_eq_true, decide_eq_true_eq] at hb; exact hb.1.2
 have hbd := nx_bd (L s) i (by omega) a3
 unfold scan_reader_include.f
 refine Ev.bind (lnx s hs i hi) ?_
 simp only [cast4]
 refine Ev.ite_pos (by omega) (Ev.ite_pos (by omega) (Ev.ite_pos (by omega) (Ev.ite_pos (by omega) (Ev.ite_pos (by omega) ?_))))
 refine Ev.step (fun k => scan_reader_include.j0.eq_2 _ _ _ _ _ _ k) (Ev.ite_neg ?_ hR)
 rw [ext_tx, toList_L, L_mkB, a4]; decide
theorem lfound_loop (s : ByteArray) (hs : s.size ≤ 65536) : ∀ (f : Nat) (acc : List SI) (i : Nat), i ≤ s.size → s.size - i < f → acc.length ≤ i → Ev (fun k => scan_found.l0 k s acc i) (resF acc (incs f (L s) i))
 | 0, acc, i, hi, hf, ha => by omega
 | f + 1, acc, i, hi, hf, ha => by
  have hL : (L s).length = s.size := L_length s
  obtain ⟨i1, i2, i3⟩ := linclude s hs i hi
  refine Ev.step (fun k => scan_found.l0.eq_2 _ _ _ k) ?_
  by_cases hb : begins (L s) i = true
  ·obtain ⟨e, p, q, hst⟩ : ∃ e p q : Nat, stepE (L s) i = (e, p, q) := ⟨_, _, _, rfl⟩
   by_cases he : e = 0
   ·subst he
    have hp : p = 0 := by
     rcases stepE_cases (L s) i with ⟨e1, h⟩ | ⟨_, e1, h⟩ | ⟨_, _, e1, h⟩ | ⟨_, _, _, e1, h⟩ | ⟨_, _, _, _, h⟩ <;> rw [hst, Prod.mk.injEq, Prod.mk.injEq] at h
     ·exact absurd h.1.symm e1
     ·exact absurd h.1.symm e1
     ·exact absurd h.1.symm e1
     ·exact absurd h.1.symm e1
     ·exact h.2.1
    subst hp
    rw [resF_step2 _ _ _ _ _ hb hst]
    obtain ⟨q1, q2⟩ := stepE_ok2 (by omega) hb hst
    refine Ev.bind (i3 hb q hst) (Ev.ite_neg (by simp) (Ev.ite_pos rfl (Ev.ite_pos (by omega) ?_)))
    exact lfound_loop s hs f _ _ (by omega) (by omega) (by rw [List.length_append]; simp; omega)
   ·obtain ⟨j, hj⟩ := i2 hb e p q hst he
    rw [resF_bad2 _ _ _ _ _ _ _ hb hst he]
    exact Ev.bind hj (Ev.ite_pos rfl (Ev.some_ rfl))
  ·rw [resF_none _ _ _ _ hb]
   exact Ev.bind (i1 hb) (Ev.ite_neg (by simp) (Ev.ite_neg (by simp) (Ev.some_ rfl)))
theorem lfound (s : ByteArray) (hs : s.size ≤ 1048576) : Ev (fun k => scan_found.f k s) (resF [] (foundT s)) := by
 unfold scan_found.f foundT
 by_cases h : s.size > 65536
 ·rw [if_pos h]
  exact Ev.ite_pos (by omega) (Ev.some_ rfl)
 ·rw [if_neg h]
  exact Ev.ite_neg (by omega) (lfound_loop s (by omega) _ [] 0 (by omega) (by omega) (by simp))
abbrev rdI := rd_T35
theorem rdI_drop {xs : List SI} {j : Nat} {x : SI} {r : List SI} (h : xs.drop j = x :: r) : rdI xs (j : Int) = x := by
 unfold rdI rd_T35
 rw [Int.toNat_natCast]; exact (drop_some h).2.1 _
def keyI (pl : Bool) (x : SI) : List UInt8 × List UInt8 × Int := (L x.f0, L x.f1, if pl = true then x.f2 else 0)
theorem lincludes (s : ByteArray) (hs : s.size ≤ 1048576) : Ev (fun k => scan_Includes.f k s) ((resF [] (foundT s)).1, (resF [] (foundT s)).2.2.1, (resF [] (foundT s)).2.2.2) := by
 unfold scan_Includes.f
 exact Ev.bind (lfound s hs) (Ev.some_ rfl)
theorem lhead (s : ByteArray) (hs : s.size ≤ 1048576) : Ev (fun k => scan_Head.f k s) (resF [] (foundT s)).2.1 := by
 unfold scan_Head.f
 exact Ev.bind (lfound s hs) (Ev.some_ rfl)
def aliveA : List UInt8 := [105, 110, 99, 108, 117, 100, 101, 32, 34, 97, 46, 109, 34, 32, 97, 115, 32, 97, 59, 32, 99, 111, 110, 115, 116]
def aliveB : List UInt8 := [105, 110, 99, 108, 117, 100, 101, 32, 34, 97, 34, 32, 97, 115, 32, 97, 59]
theorem aliveA_nums : (incs 26 aliveA 0).2.2 = (0, 0) ∧ (incs 26 aliveA 0).1.map (keyI true) = [([97, 46, 109], [97], 0)] := by decide +kernel
theorem aliveB_nums : (incs 18 aliveB 0).2 = (17, 0, 0) := by decide +kernel
theorem alive : Ev (fun k => treadlelaw13_alive.f k) true := by
 unfold treadlelaw13_alive.f
 have hA : foundT (mkB aliveA) = incs 26 aliveA 0 := by
  unfold foundT
  rw [if_neg (by decide)]; rfl
 have hB : foundT (mkB aliveB) = incs 18 aliveB 0 := by
  unfold foundT
  rw [if_neg (by decide)]; rfl
 have ha := lincludes (mkB aliveA) (by decide)
 have hb := lhead (mkB aliveB) (by decide)
 rw [hA] at ha
 rw [hB] at hb
 obtain ⟨n1, n2⟩ := aliveA_nums
 have n3 := aliveB_nums
 have hb' : Ev (fun k => scan_Head.f k (mkB aliveB)) 17 := hb.eq (by unfold resF; rw [n3]; rfl)
 generalize incs 26 aliveA 0 = X at *
 obtain ⟨l, e, c, d⟩ := X
 simp only [Prod.mk.injEq] at n1
 obtain ⟨rfl, rfl⟩ := n1
 have hr : resF [] (l, e, 0, 0) = (l, (e : Int), 0, 0) := by unfold resF; rw [if_neg (by simp)]; simp
 rw [hr] at ha
 match l, n2 with
 | [], n2 => simp at n2
 | x :: y :: r, n2 => simp at n2
 | [x], n2 =>
  simp only [List.map_cons, List.map_nil, List.cons.injEq, and_true, keyI, if_true, Prod.mk.injEq] at n2
  obtain ⟨m1, m2, m3⟩ := n2
  refine Ev.bind ha (Ev.ite_pos rfl (Ev.ite_pos rfl (Ev.ite_pos (by simp) (Ev.ite_pos ?_ ?_))))
  ·show ((x.f0.toList == [97, 46, 109]) && ((x.f1.toList == [97]) && (x.f2 == 0))) = true
   rw [toList_L, toList_L, m1, m2, m3]; rfl
  ·exact Ev.bind hb' (Ev.some_ rfl)
def putB (x : SI) : List UInt8 := [105, 110, 99, 108, 117, 100, 101, 32] ++ L (quoteR x.f0).1 ++ [32, 97, 115, 32] ++ L x.f1 ++ [59, 10]
def okX (x : SI) : Bool := decide ((quoteR x.f0).2 = 0) && (nameOk (L x.f1) && !decide (L x.f1 ∈ keyTexts))
def putAll : List SI → List UInt8 → Option (List UInt8)
 | [], A => some A
 | x :: r, A => if okX x = true then putAll r (if A.length ≤ 65536 then A ++ putB x else A) else none
end Go.Proofs.YtifachjefpcgcaaGreatDoor.Pure
