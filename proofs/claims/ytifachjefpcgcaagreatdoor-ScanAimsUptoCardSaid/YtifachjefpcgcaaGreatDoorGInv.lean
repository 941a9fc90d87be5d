import Derived.Below
import Derived.RowKit
import Derived.Lib.LaidTab
import Derived.Lib.ItoaMem
import Derived.Test.YtifachjefpcgcaaGreatDoorProg
import Derived.Test.YtifachjefpcgcaaGreatDoorGWWords
namespace Go.Proofs.YtifachjefpcgcaaGreatDoor.P
open Go.RowKit Go.Proofs.YtifachjefpcgcaaGreatDoorW.PrintWords
structure Inv (w : World) : Prop where
 pow : Lib.TabIs Tryz.prog w "internal/strconv.uint64pow10" .u64 Lib.pow10Tab
 rng : ∃ ev, w.cell? ⟨4, 0, none⟩ = some ev ∧ (ev = .nilIface ∨ ∃ te pe, ev = .iface te pe)
theorem gPow : Tryz.prog.globalNamed "internal/strconv.uint64pow10" = some 5 := by kernel_rfl
theorem Inv.below {w w' : World} (h : Inv w) (hb : Below w.heap.size w w') : Inv w' := by
 constructor
 ·have h1 := h.pow
  unfold Lib.TabIs World.var? at h1 ⊢
  rw [gPow] at h1 ⊢
  simp only [Option.bind_some] at h1 ⊢
  cases hc : w.heap[5]? with
  | none => rw [hc] at h1; cases h1
  | some o =>
   have hlt : 5 < w.heap.size := by
    rcases Nat.lt_or_ge 5 w.heap.size with h2 | h2
    ·exact h2
    ·rw [Array.getElem?_eq_none h2] at hc; cases hc
   rw [hb.block _ hlt, hc]
   rw [hc] at h1
   exact h1
 ·obtain ⟨ev, h1, h2⟩ := h.rng
  refine ⟨ev, ?_, h2⟩
  have hlt := World.block_lt_of_cell? w _ h1
  rw [hb.cell hlt]; exact h1
theorem Inv.drawn {w w' : World} (h : Inv w) (hd : Drawn0 w w') : Inv w' := h.below hd.below
end Go.Proofs.YtifachjefpcgcaaGreatDoor.P
