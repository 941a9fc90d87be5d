import Derived.Test.YtifachjefpcgcaaDoorELexPart
namespace Go.Proofs.YtifachjefpcgcaaDoor.Pure
open Go.RowKit Go.Proofs.YtifachjefpcgcaaDoor.P Go.Proofs.YtifachjefpcgcaaDoor.Base Go.Proofs.YtifachjefpcgcaaDoorW.PrintWords Go.Proofs.YtifachjefpcgcaaDoorW.PrintLast Go.Proofs.YtifachjefpcgcaaDoorW.PrintMore
set_option linter.unusedVariables false
set_option linter.unusedSimpArgs false
def incT : List UInt8 := [105, 110, 99, 108, 117, 100, 101]
def asT : List UInt8 := [97, 115]
def semT : List UInt8 := [59]
theorem tok_inc : tok incT = (4, 7, 0) := by decide +kernel
theorem tok_as : tok asT = (4, 2, 0) := by decide +kernel
theorem tok_sem : tok semT = (5, 1, 0) := by decide +kernel
theorem tok_self (l : List UInt8) (h : (tok l).2.2 = 0) : tok (l.take (tok l).2.1) = tok l := tok_cut l _ h (Nat.le_refl _)
def tx (l : List UInt8) (i : Nat) : List UInt8 := (l.drop (nx l i).2.1).take ((nx l i).2.2.1 - (nx l i).2.1)
theorem tx_tok (l : List UInt8) (i : Nat) (hi : i ≤ l.length) (he : (nx l i).2.2.2 = 0) (hk : (nx l i).1 ≠ 0) : tok (tx l i) = ((nx l i).1, (tx l i).length, 0) := by
  obtain ⟨_, h2, h3⟩ := nx_tok l i he hk
  have h4 := (nx_adv l i hi he hk).2
  have hself := tok_self (l.drop (nx l i).2.1) (by rw [h3])
  rw [h3] at hself
  unfold tx
  rw [hself, List.length_take, List.length_drop]
  congr 2
  omega
theorem tx_end (l : List UInt8) (i : Nat) (he : (nx l i).2.2.2 = 0) (hk : (nx l i).1 = 0) : tx l i = [] := by
  obtain ⟨h1, h2⟩ := nx_end l i he hk
  unfold tx
  rw [h1, h2]; simp
theorem kind_eq (l : List UInt8) (i k : Nat) (t : List UInt8) (hi : i ≤ l.length) (he : (nx l i).2.2.2 = 0) (hk : 1 ≤ k) (ht : (tok t).1 = k) (hne : t ≠ []) : ((nx l i).1 = k ∧ tx l i = t) ↔ tx l i = t := by
  refine ⟨fun h => h.2, fun h => ⟨?_, h⟩⟩
  by_cases h0 : (nx l i).1 = 0
  · rw [tx_end l i he h0] at h; exact absurd h.symm hne
  · have := tx_tok l i hi he h0
    rw [h] at this
    rw [this] at ht
    exact ht
theorem kind_word (l : List UInt8) (i : Nat) (hi : i ≤ l.length) (he : (nx l i).2.2.2 = 0) : ((nx l i).1 = 1) ↔ (nameOk (tx l i) && !decide (tx l i ∈ keyTexts)) = true := by
  rw [← just_word]
  by_cases h0 : (nx l i).1 = 0
  · rw [tx_end l i he h0]; rw [h0]
    have : just [] 1 = false := by rfl
    rw [this]; simp
  · have := tx_tok l i hi he h0
    have hne : tx l i ≠ [] := by
      intro h; rw [h] at this
      have h1 : tok [] = (0, 0, 120) := rfl
      rw [h1] at this; injection this with _ h2; injection h2 with _ h3; cases h3
    unfold just
    rw [this, decide_eq_true hne]
    simp
theorem kind_text (l : List UInt8) (i : Nat) (hi : i ≤ l.length) (he : (nx l i).2.2.2 = 0) : ((nx l i).1 = 3) ↔ (textR (tx l i)).2 = 0 := by
  by_cases h0 : (nx l i).1 = 0
  · rw [tx_end l i he h0, h0]
    have : (textR []).2 = 122 := rfl
    rw [this]; constructor <;> intro h <;> cases h
  have ht := tx_tok l i hi he h0
  generalize tx l i = s at *
  generalize (nx l i).1 = k at *
  cases s with
  | nil => exact absurd ht (by intro h; have h1 : tok [] = (0, 0, 120) := rfl; rw [h1] at h; injection h with _ h2; injection h2 with _ h3; cases h3)
  | cons c r =>
    have ht' : tokC c r = (k, (c :: r).length, 0) := ht
    have h34 : ∀ c : UInt8, c.toNat = 34 → isL c = false ∧ isD c = false := by
      intro c hc
      have : c = 34 := by apply UInt8.toNat.inj; rw [hc]; rfl
      subst this; decide
    unfold textR
    simp only
    by_cases hq : c.toNat = 34
    · rw [if_pos hq]
      obtain ⟨hl, hd⟩ := h34 c hq
      unfold tokC at ht'
      rw [if_neg (by simp [hl]), if_neg (by simp [hd]), if_pos hq] at ht'
      cases hx : quo r with
      | none => rw [hx] at ht'; simp only at ht'; injection ht' with _ h2; injection h2 with _ h3; cases h3
      | some z =>
        obtain ⟨t, n⟩ := z
        rw [hx] at ht'
        simp only at ht' ⊢
        injection ht' with h1 h2; injection h2 with h2 h3
        rw [if_pos h2, ← h1]
        simp
    · rw [if_neg hq]
      refine ⟨fun h => ?_, fun h => by cases h⟩
      exfalso
      subst h
      unfold tokC at ht'
      rw [if_neg hq] at ht'
      split at ht'
      · split at ht'
        · injection ht' with h1; cases h1
        · split at ht' <;> (injection ht' with h1; cases h1)
      · split at ht'
        · split at ht' <;> (injection ht' with h1; cases h1)
        · split at ht' <;> (injection ht' with h1; cases h1)
def begins (l : List UInt8) (i : Nat) : Bool := decide ((nx l i).2.2.2 = 0) && decide ((nx l i).1 = 4) && decide (tx l i = incT)
def fit (place : Nat) (s : List UInt8) : Bool := if place = 1 then decide ((textR s).2 = 0) else if place = 2 then decide (s = asT) else if place = 3 then nameOk s && !decide (s ∈ keyTexts) else decide (s = semT)
def wE (l : List UInt8) (i place : Nat) : Nat := if (nx l i).2.2.2 ≠ 0 then (nx l i).2.2.2 else if fit place (tx l i) = true then 0 else 130
def tt (l : List UInt8) (i : Nat) : Nat := (nx l i).2.2.1
def fr (l : List UInt8) (i : Nat) : Nat := (nx l i).2.1
def stepE (l : List UInt8) (i : Nat) : Nat × Nat × Nat :=
  if wE l (tt l i) 1 ≠ 0 then (wE l (tt l i) 1, fr l (tt l i), 0)
  else if wE l (tt l (tt l i)) 2 ≠ 0 then (wE l (tt l (tt l i)) 2, fr l (tt l (tt l i)), 0)
  else if wE l (tt l (tt l (tt l i))) 3 ≠ 0 then (wE l (tt l (tt l (tt l i))) 3, fr l (tt l (tt l (tt l i))), 0)
  else if wE l (tt l (tt l (tt l (tt l i)))) 4 ≠ 0 then (wE l (tt l (tt l (tt l (tt l i)))) 4, fr l (tt l (tt l (tt l (tt l i)))), 0)
  else (0, 0, tt l (tt l (tt l (tt l (tt l i)))))
def stepP (l : List UInt8) (i : Nat) : ByteArray := (textR (tx l (tt l i))).1
def stepN (l : List UInt8) (i : Nat) : ByteArray := mkB (tx l (tt l (tt l (tt l i))))
theorem wE_ok {l : List UInt8} {i p : Nat} (hi : i ≤ l.length) (h : wE l i p = 0) : (nx l i).2.2.2 = 0 ∧ fit p (tx l i) = true ∧ (1 ≤ p → i < tt l i) ∧ tt l i ≤ l.length := by
  unfold wE at h
  by_cases he : (nx l i).2.2.2 ≠ 0
  · rw [if_pos he] at h; exact absurd h he
  rw [if_neg he] at h
  have he' : (nx l i).2.2.2 = 0 := by omega
  by_cases hf : fit p (tx l i) = true
  · refine ⟨he', hf, ?_⟩
    have hk : (nx l i).1 ≠ 0 := by
      intro h0
      rw [tx_end l i he' h0] at hf
      unfold fit at hf
      split at hf
      · cases hf
      · split at hf
        · cases hf
        · split at hf
          · cases hf
          · cases hf
    have := nx_adv l i hi he' hk
    exact ⟨fun _ => this.1, this.2⟩
  · rw [if_neg hf] at h; cases h
theorem begins_adv {l : List UInt8} {i : Nat} (hi : i ≤ l.length) (h : begins l i = true) : i < tt l i ∧ tt l i ≤ l.length ∧ (nx l i).2.2.2 = 0 ∧ tx l i = incT := by
  unfold begins at h
  simp only [Bool.and_eq_true, decide_eq_true_eq] at h
  obtain ⟨⟨h1, h2⟩, h3⟩ := h
  have := nx_adv l i hi h1 (by omega)
  exact ⟨this.1, this.2, h1, h3⟩
theorem stepE_cases (l : List UInt8) (i : Nat) :
    (wE l (tt l i) 1 ≠ 0 ∧ stepE l i = (wE l (tt l i) 1, fr l (tt l i), 0)) ∨
    (wE l (tt l i) 1 = 0 ∧ wE l (tt l (tt l i)) 2 ≠ 0 ∧ stepE l i = (wE l (tt l (tt l i)) 2, fr l (tt l (tt l i)), 0)) ∨
    (wE l (tt l i) 1 = 0 ∧ wE l (tt l (tt l i)) 2 = 0 ∧ wE l (tt l (tt l (tt l i))) 3 ≠ 0 ∧ stepE l i = (wE l (tt l (tt l (tt l i))) 3, fr l (tt l (tt l (tt l i))), 0)) ∨
    (wE l (tt l i) 1 = 0 ∧ wE l (tt l (tt l i)) 2 = 0 ∧ wE l (tt l (tt l (tt l i))) 3 = 0 ∧ wE l (tt l (tt l (tt l (tt l i)))) 4 ≠ 0 ∧ stepE l i = (wE l (tt l (tt l (tt l (tt l i)))) 4, fr l (tt l (tt l (tt l (tt l i)))), 0)) ∨
    (wE l (tt l i) 1 = 0 ∧ wE l (tt l (tt l i)) 2 = 0 ∧ wE l (tt l (tt l (tt l i))) 3 = 0 ∧ wE l (tt l (tt l (tt l (tt l i)))) 4 = 0 ∧ stepE l i = (0, 0, tt l (tt l (tt l (tt l (tt l i)))))) := by
  unfold stepE
  generalize wE l (tt l i) 1 = e1
  generalize wE l (tt l (tt l i)) 2 = e2
  generalize wE l (tt l (tt l (tt l i))) 3 = e3
  generalize wE l (tt l (tt l (tt l (tt l i)))) 4 = e4
  by_cases h1 : e1 = 0
  · by_cases h2 : e2 = 0
    · by_cases h3 : e3 = 0
      · by_cases h4 : e4 = 0
        · exact .inr (.inr (.inr (.inr ⟨h1, h2, h3, h4, by rw [if_neg (fun h => h h1), if_neg (fun h => h h2), if_neg (fun h => h h3), if_neg (fun h => h h4)]⟩)))
        · exact .inr (.inr (.inr (.inl ⟨h1, h2, h3, h4, by rw [if_neg (fun h => h h1), if_neg (fun h => h h2), if_neg (fun h => h h3), if_pos h4]⟩)))
      · exact .inr (.inr (.inl ⟨h1, h2, h3, by rw [if_neg (fun h => h h1), if_neg (fun h => h h2), if_pos h3]⟩))
    · exact .inr (.inl ⟨h1, h2, by rw [if_neg (fun h => h h1), if_pos h2]⟩)
  · exact .inl ⟨h1, by rw [if_pos h1]⟩
theorem stepE_ok {l : List UInt8} {i : Nat} (hi : i ≤ l.length) (hb : begins l i = true) (h : (stepE l i).1 = 0) :
    i < (stepE l i).2.2 ∧ (stepE l i).2.2 ≤ l.length := by
  obtain ⟨b1, b2, _, _⟩ := begins_adv hi hb
  rcases stepE_cases l i with ⟨e, hs⟩ | ⟨_, e, hs⟩ | ⟨_, _, e, hs⟩ | ⟨_, _, _, e, hs⟩ | ⟨e1, e2, e3, e4, hs⟩
  · rw [hs] at h; simp only at h; exact absurd h e
  · rw [hs] at h; simp only at h; exact absurd h e
  · rw [hs] at h; simp only at h; exact absurd h e
  · rw [hs] at h; simp only at h; exact absurd h e
  · rw [hs]
    obtain ⟨_, _, p1, q1⟩ := wE_ok b2 e1
    obtain ⟨_, _, p2, q2⟩ := wE_ok q1 e2
    obtain ⟨_, _, p3, q3⟩ := wE_ok q2 e3
    obtain ⟨_, _, p4, q4⟩ := wE_ok q3 e4
    have p1 := p1 (Nat.le_refl _); have p2 := p2 (by decide); have p3 := p3 (by decide); have p4 := p4 (by decide)
    simp only
    exact ⟨Nat.lt_trans b1 (Nat.lt_trans p1 (Nat.lt_trans p2 (Nat.lt_trans p3 p4))), q4⟩
end Go.Proofs.YtifachjefpcgcaaDoor.Pure
