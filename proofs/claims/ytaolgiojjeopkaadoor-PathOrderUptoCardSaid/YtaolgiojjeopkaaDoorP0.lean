-- Written by wip/tools/pp.py of this session's repo: the kit's print, driven with given contracts. Lean checks it.
import Derived.Test.YtaolgiojjeopkaaDoorProg
import Derived.Below
import Derived.Deep.Draws
import Derived.Deep.AppendLies
import Derived.Maps.AppendAt
import Derived.OwnWalk
import Derived.Laws.BytesArg
import Derived.Laws.MakeOwn
import Derived.Laws.OwnMore
import Derived.Deep.OwnRows
import Derived.Tactics
import Derived.Lib.ConvBytes
import Derived.Laws.Slices
import Derived.WalkKit
import Derived.KernelRfl
import Derived.RowKit3
import Derived.Deep.LoopGhost
import Derived.Deep.QuietTactic
import Derived.BigQuiet
import Derived.WideLaws
import Derived.Deep.DeepCutAuto
import Derived.Deep.CutBlock
import Derived.Deep.RegionHeld3
import Derived.Laws.Rows
import Derived.Lib.AppendStr
import Derived.ArgAppend
import Derived.Laws.IdiomCopy
import Derived.OrdersHeld
import Derived.Laws.BitsLemmas
import Derived.RowKit
import Derived.Test.YtaolgiojjeopkaaDoorShelfJoin
import Derived.Lib.Strings
import Derived.Lib.Slices
import Derived.Lib.Walk
import Derived.Lib.Bytealg
import Derived.Test.YtaolgiojjeopkaaDoorWWords
import Derived.Test.YtaolgiojjeopkaaDoorWLast
import Derived.Test.YtaolgiojjeopkaaDoorWTab
import Derived.Test.YtaolgiojjeopkaaDoorWFour
import Derived.Test.YtaolgiojjeopkaaDoorWQPut
import Derived.Test.YtaolgiojjeopkaaDoorWApart
import Derived.Test.YtaolgiojjeopkaaDoorWArr
import Derived.Test.YtaolgiojjeopkaaDoorWZeros
import Derived.Test.YtaolgiojjeopkaaDoorWFoot
import Derived.Test.YtaolgiojjeopkaaDoorWKept
import Derived.Test.YtaolgiojjeopkaaDoorWShare
import Derived.Test.YtaolgiojjeopkaaDoorWN
import Derived.Test.YtaolgiojjeopkaaDoorWEqStruct
import Derived.Test.YtaolgiojjeopkaaDoorWRepsOne
import Derived.Test.YtaolgiojjeopkaaDoorWGuard
import Derived.Test.YtaolgiojjeopkaaDoorWNEv
import Derived.Test.YtaolgiojjeopkaaDoorWMore
namespace Go.Proofs.YtaolgiojjeopkaaDoor.P
open Go.RowKit Go.Proofs.YtaolgiojjeopkaaDoorW.PrintWords Go.Proofs.YtaolgiojjeopkaaDoorW.PrintLast Go.Proofs.YtaolgiojjeopkaaDoorW.PrintMore
attribute [local go_sem] max2_int min2_int max_two min_two max_three min_three max_four min_four   -- for this text's walks alone
set_option linter.unusedVariables false
set_option linter.unusedSimpArgs false



def errW : Option Int → Value
  | none => .nilIface
  | some c => .iface 0 (.int .i64 c)
theorem errW_none : errW none = .nilIface := rfl
theorem errW_some (c : Int) : errW (some c) = .iface 0 (.int .i64 c) := rfl

theorem info9 : (Tryd.prog.info? 9).map (fun i => (i.zero, i.size, i.bytes)) = some (some (.string ⟨#[]⟩), 1, 16) := by kernel_rfl
theorem info24 : (Tryd.prog.info? 24).map (fun i => (i.zero, i.size, i.bytes)) = some (some (.int .i64 0), 1, 8) := by kernel_rfl
-- the values' own types

end Go.Proofs.YtaolgiojjeopkaaDoor.P
