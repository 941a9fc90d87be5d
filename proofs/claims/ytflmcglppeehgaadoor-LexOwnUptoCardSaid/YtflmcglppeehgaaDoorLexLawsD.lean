/- Layer lex: the law LexOwn. -/
import Derived.Test.YtflmcglppeehgaaDoorLexAll
namespace Go.Proofs.YtflmcglppeehgaaDoor.Pure
open Go.RowKit Go.Proofs.YtflmcglppeehgaaDoor.P Go.Proofs.YtflmcglppeehgaaDoor.Base Go.Proofs.YtflmcglppeehgaaDoorW.PrintWords Go.Proofs.YtflmcglppeehgaaDoorW.PrintLast Go.Proofs.YtflmcglppeehgaaDoorW.PrintMore
set_option linter.unusedVariables false
set_option linter.unusedSimpArgs false

/-! ### LexOwn -/
theorem own_loop (s : ByteArray) (X : List S24) (j : Int) (B : List S24 → Prop) (R : Bool) (m : Nat) (hm : m ≤ 65537)
    (hK : ∀ y : List S24, y.length = m → Ev (fun k => treadlelaw12_LexOwn.l1 k s X j y (m : Int)) R) :
    ∀ (n i : Nat) (y : List S24), m - i = n → i ≤ m → y.length = m → Ev (fun k => treadlelaw12_LexOwn.l1 k s X j y i) R
  | 0, i, y, hn, hi, hy => by obtain rfl : i = m := by omega
                              exact hK y hy
  | n + 1, i, y, hn, hi, hy => by
    refine Ev.step (fun k => treadlelaw12_LexOwn.l1.eq_2 _ _ _ _ _ k) (Ev.ite_pos (by omega) (Ev.ite_pos (by omega) ?_))
    rw [wrap_succ (by omega)]
    exact own_loop s X j B R m hm hK n (i + 1) _ (by omega) (by omega) (by rw [List.length_set]; exact hy)
theorem LexOwn (s : ByteArray) (hs : s.size ≤ 1048576) : Ev (fun k => treadlelaw12_LexOwn.f k s) true := by
  unfold treadlelaw12_LexOwn.f
  refine Ev.bind (rall s hs) ?_
  have hl := lall s hs
  obtain ⟨h1, h2⟩ := allT_len s hs
  generalize allT s = x at *
  obtain ⟨t, w, p⟩ := x
  simp only at h1 h2
  unfold resR
  unfold resL at hl
  simp only [List.nil_append] at hl ⊢
  by_cases hw : w = 0
  · have hp := h2 hw
    subst hw; subst hp
    refine Ev.ite_neg (by decide) ?_
    rw [if_pos rfl] at hl
    have step : ∀ j : Nat, j < 2 → Ev (fun k => treadlelaw12_LexOwn.l0 k s t ((j + 1 : Nat) : Int)) true → Ev (fun k => treadlelaw12_LexOwn.l0 k s t j) true := fun j hj hn => by
      refine Ev.step (fun k => treadlelaw12_LexOwn.l0.eq_2 _ _ _ k) (Ev.ite_pos (by omega) (Ev.bind hl (Ev.bind (same t (by omega)) (Ev.ite_pos rfl ?_))))
      refine own_loop s t j (fun _ => True) true t.length h1 (fun y hy => ?_) t.length 0 t (by omega) (by omega) rfl
      refine Ev.step (fun k => treadlelaw12_LexOwn.l1.eq_2 _ _ _ _ _ k) (Ev.ite_neg (by omega) (Ev.bind_now rfl (Ev.ite_pos ?_ (Ev.ite_pos ?_ ?_))))
      · simp only [List.length_cons, List.length_nil]; omega
      · rw [wrap_id (by omega) (by omega), List.length_append, hy]; simp
      · rw [wrap_succ (by omega)]; exact hn
    refine step 0 (by omega) (step 1 (by omega) ?_)
    exact Ev.step (fun k => treadlelaw12_LexOwn.l0.eq_2 _ _ _ k) (Ev.ite_neg (by decide) (Ev.bind awake (Ev.some_ rfl)))
  · refine Ev.ite_pos ?_ (Ev.bind awake (Ev.some_ rfl))
    simp; omega
end Go.Proofs.YtflmcglppeehgaaDoor.Pure
