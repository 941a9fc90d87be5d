import Derived.Test.YtifachjefpcgcaaGreatDoorGWWords
import Derived.Test.YtifachjefpcgcaaGreatDoorGWLast
import Derived.Test.YtifachjefpcgcaaGreatDoorGWApart
import Derived.Test.YtifachjefpcgcaaGreatDoorGWKept
import Derived.Test.YtifachjefpcgcaaGreatDoorGWShare
import Derived.Test.YtifachjefpcgcaaGreatDoorGWN
import Derived.Test.YtifachjefpcgcaaGreatDoorGWMore
import Derived.Test.YtifachjefpcgcaaGreatDoorGWTab
import Derived.Test.YtifachjefpcgcaaGreatDoorGWEqStruct
import Derived.Test.YtifachjefpcgcaaGreatDoorGWRepsOne
import Derived.Test.YtifachjefpcgcaaGreatDoorGWGuard
set_option linter.unusedVariables false
set_option linter.unusedSimpArgs false
open Go.RowKit
namespace Go.Proofs.YtifachjefpcgcaaGreatDoorW.PrintWords
theorem bd1 {w : World} {g : Nat} {o : Obj} (h : w.heap[g]? = some o) (n : Nat) : (w.drewN n).heap[g]? = some o := blk_drewN h n
theorem bd2 {w : World} {g : Nat} {o : Obj} (h : w.heap[g]? = some o) : w.drew.heap[g]? = some o := blk_drew h
theorem bd3 {w : World} {g : Nat} {o : Obj} (h : w.heap[g]? = some o) (o' : Obj) : (w.alloc o').heap[g]? = some o := blk_alloc h o'
theorem bw1 {w W : World} (h : Below w.heap.size w W) (o : Obj) : Below w.heap.size w (W.alloc o) := below_alloc h o
theorem bw2 {B : Nat} {w W : World} (h : Below B w W) (n : Nat) : Below B w (W.drewN n) := pw_below_drewN h n
theorem bw3 {B : Nat} {w W : World} (h : Below B w W) : Below B w W.drew := below_drew1 h
theorem bk1 {w w1 : World} {g : Nat} {row : Option Nat} (h : KeepBut w w1 g row) (j : Nat) (u : Value) : KeepBut w (w1.setCell ⟨g, j, none⟩ u) g row := KeepBut.set_ h j u
theorem bk2 {w W : World} {g : Nat} {row : Option Nat} (h : KeepBut w W g row) (m : Nat) : KeepBut w (W.drewN m) g row := keep_drewN h m
theorem bk3 {w W : World} {g : Nat} {row : Option Nat} (h : KeepBut w W g row) : KeepBut w W.drew g row := keep_drew h
theorem bk4 {w W : World} {g : Nat} (h : KeepBut w W g none) (o : Obj) : KeepBut w (W.alloc o) g none := keep_alloc h o
theorem am {α β : Type} {f : α → β} {l : List α} : l.toArray.map f = (l.map f).toArray := List.map_toArray
end Go.Proofs.YtifachjefpcgcaaGreatDoorW.PrintWords
