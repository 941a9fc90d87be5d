import Derived.Lib.LaidU8
import Derived.Stop.LaidErr
import Derived.Test.YtifachjefpcgcaaDoorEInv
namespace Go.Proofs.YtifachjefpcgcaaDoor.P
open Go.RowKit
theorem gErrR : Tryd.prog.globalNamed "strconv.ErrRange" = some 2 := by kernel_rfl
theorem starE : "*" ++ "errors.errorString" = "*errors.errorString" := by decide
theorem rowE (u : TypeId) (h : Tryd.prog.typeName? 3 u = some "*errors.errorString") : u = 119 :=
  typeName_ptr_named (nm := "errors.errorString") (by rw [starE]; kernel_rfl) (by kernel_rfl) (by decide) u (by rw [starE]; exact h)
theorem inv_of_laid {W : World} {l0 l1 : String × DataW Unit} {r : List (String × DataW Unit)} {text : List UInt8}
    (h : laidMet Tryd.prog (l0 :: l1 :: ("internal/strconv.uint64pow10", Lib.tabData .u64 Lib.pow10Tab) :: ("strconv.ErrRange", .iface "*errors.errorString" (.ptr (.agg [.lit (.string text)]))) :: r) W) : Inv W := by
  constructor
  · exact Lib.tabIs_of_head (t := 113) (n := 20) gPow (by kernel_rfl) Tryd.underlying113 Tryd.underlying85 (by kernel_rfl) (by kernel_rfl) h.tail.tail
  · obtain ⟨a1, s1, hv1, -, -, -⟩ := laid_sentinel (ti := 88) (tp := 119) (te := 121) (ts := 9) h.tail.tail.tail gErrR (by kernel_rfl) Tryd.underlying88 rowE Tryd.underlying119 Tryd.underlying121 rfl rfl Tryd.underlying9 (by kernel_rfl) (by kernel_rfl)
    exact ⟨_, by have h0 := World.var?_cell gErrR hv1 0; simpa using h0, Or.inr ⟨_, _, rfl⟩⟩
end Go.Proofs.YtifachjefpcgcaaDoor.P
