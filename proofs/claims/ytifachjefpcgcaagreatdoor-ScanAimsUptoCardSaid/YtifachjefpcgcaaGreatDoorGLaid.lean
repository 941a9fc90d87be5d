import Derived.Lib.LaidU8
import Derived.Stop.LaidErr
import Derived.Test.YtifachjefpcgcaaGreatDoorGInv
namespace Go.Proofs.YtifachjefpcgcaaGreatDoor.P
open Go.RowKit
theorem gErrR : Tryz.prog.globalNamed "strconv.ErrRange" = some 4 := by kernel_rfl
theorem starE : "*" ++ "errors.errorString" = "*errors.errorString" := by decide
theorem rowE (u : TypeId) (h : Tryz.prog.typeName? 3 u = some "*errors.errorString") : u = 167 :=
 typeName_ptr_named (nm := "errors.errorString") (by rw [starE]; kernel_rfl) (by kernel_rfl) (by decide) u (by rw [starE]; exact h)
theorem inv_of_laid1 {W : World} {l0 l1 l2 : String × DataW Unit} {r : List (String × DataW Unit)} {text : List UInt8}
  (h : laidMet Tryz.prog (l0 :: l1 :: ("internal/strconv.uint64pow10", Lib.tabData .u64 Lib.pow10Tab) :: l2 :: ("strconv.ErrRange", .iface "*errors.errorString" (.ptr (.agg [.lit (.string text)]))) :: r) W) : Inv W := by
 constructor
 ·exact Lib.tabIs_of_head (t := 163) (n := 20) gPow (by kernel_rfl) Tryz.underlying163 Tryz.underlying129 (by kernel_rfl) (by kernel_rfl) h.tail.tail
 ·obtain ⟨a1, s1, hv1, -, -, -⟩ := laid_sentinel (ti := 93) (tp := 167) (te := 169) (ts := 9) h.tail.tail.tail.tail gErrR (by kernel_rfl) Tryz.underlying93 rowE Tryz.underlying167 Tryz.underlying169 rfl rfl Tryz.underlying9 (by kernel_rfl) (by kernel_rfl)
  exact ⟨_, by have h0 := World.var?_cell gErrR hv1 0; simpa using h0, Or.inr ⟨_, _, rfl⟩⟩
end Go.Proofs.YtifachjefpcgcaaGreatDoor.P
