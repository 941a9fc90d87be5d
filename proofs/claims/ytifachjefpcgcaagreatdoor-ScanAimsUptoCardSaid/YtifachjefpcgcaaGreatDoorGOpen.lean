import Derived.WalkKit
import Derived.ProofKit
import Derived.OpenShut
import Derived.ShutString
import Derived.SliceStrings
import Derived.Test.YtifachjefpcgcaaGreatDoorGBulk
import Derived.Test.YtifachjefpcgcaaGreatDoorGWMore
namespace Go.Proofs.YtifachjefpcgcaaGreatDoor.Opens
open Go.ChangeShapes Go.WideShapes Go.ChangeAt Go.RowKit Go.Proofs.YtifachjefpcgcaaGreatDoorW.PrintWords Go.Proofs.YtifachjefpcgcaaGreatDoorW.PrintLast Go.Proofs.YtifachjefpcgcaaGreatDoorW.PrintMore
open Go.ChangeMaps (open_string shut_string)
set_option linter.unusedVariables false
set_option linter.unusedSimpArgs false
theorem bulk_str {H : Type} {s : ByteArray} {l : List (DataW H)} (h : (DataW.lit (.string s.data.toList)) ∈ l) (hk : Rows.uptoSmall H l = true) : s.size ≤ 1048576 := by
 have h1 := bulks.part_le h
 have h2 := bulks.bound hk
 rw [bulks.string_eq] at h1
 have e : s.data.toList.length = s.size := by rw [Array.length_toList]; rfl
 omega
theorem bulk_arg {H : Type} {d : DataW H} {l : List (DataW H)} (h : d ∈ l) (hk : Rows.uptoSmall H l = true) : Rows.uptoBulk d ≤ 1048576 := Nat.le_trans (bulks.part_le h) (bulks.bound hk)
end Go.Proofs.YtifachjefpcgcaaGreatDoor.Opens
