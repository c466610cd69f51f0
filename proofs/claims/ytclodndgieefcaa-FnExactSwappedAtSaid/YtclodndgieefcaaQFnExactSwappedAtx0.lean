/- Contracts of the functions that the law FnExactSwappedAt uses, written by a program of this session (wip/print2.py) over a turned copy of the kit's print; nothing is assumed. -/
import Derived.Test.YtclodndgieefcaaProg
import Derived.Below
import Derived.Deep.Draws
import Derived.Deep.AppendLies
import Derived.Maps.AppendAt
import Derived.OwnWalk
import Derived.Laws.BytesArg
import Derived.Laws.MakeOwn
import Derived.Laws.OwnMore
import Derived.Deep.OwnRows
import Derived.Tactics
import Derived.Lib.ConvBytes
import Derived.Laws.Slices
import Derived.WalkKit
import Derived.KernelRfl
import Derived.RowKit3
import Derived.Deep.LoopGhost
import Derived.Deep.QuietTactic
import Derived.BigQuiet
import Derived.WideLaws
import Derived.Deep.DeepCutAuto
import Derived.Deep.CutBlock
import Derived.Deep.RegionHeld3
import Derived.Laws.Rows
import Derived.Lib.AppendStr
import Derived.ArgAppend
import Derived.Laws.IdiomCopy
import Derived.OrdersHeld
import Derived.Laws.BitsLemmas
import Derived.RowKit
import Derived.Lib.SliceRun
import Derived.Test.YtclodndgieefcaaWWords
import Derived.Test.YtclodndgieefcaaWLast
import Derived.Test.YtclodndgieefcaaWTab
import Derived.Test.YtclodndgieefcaaWFour
import Derived.Test.YtclodndgieefcaaWQPut
import Derived.Test.YtclodndgieefcaaWApart
import Derived.Test.YtclodndgieefcaaWArr
import Derived.Test.YtclodndgieefcaaWZeros
import Derived.Test.YtclodndgieefcaaWFoot
import Derived.Test.YtclodndgieefcaaWKept
import Derived.Test.YtclodndgieefcaaWShare
import Derived.Test.YtclodndgieefcaaWN
import Derived.Test.YtclodndgieefcaaWFootNe
import Derived.Test.YtclodndgieefcaaWAt
import Derived.Test.YtclodndgieefcaaWEqStruct
import Derived.Test.YtclodndgieefcaaWRepsOne
import Derived.Test.YtclodndgieefcaaWInv
import Derived.Test.YtclodndgieefcaaWInvWords
import Derived.Test.YtclodndgieefcaaWGuard
import Derived.Test.YtclodndgieefcaaWNEv
import Derived.Test.YtclodndgieefcaaWMore
namespace Go.Proofs.Ytclodndgieefcaa.PFnExactSwappedAt
open Go.RowKit Go.Proofs.YtclodndgieefcaaW.PrintWords Go.Proofs.YtclodndgieefcaaW.PrintLast Go.Proofs.YtclodndgieefcaaW.PrintMore
attribute [local go_sem] max2_int min2_int max_two min_two max_three min_three max_four min_four   -- for this text's walks alone
set_option linter.unusedVariables false
set_option linter.unusedSimpArgs false



def errW : Option Int → Value
  | none => .nilIface
  | some c => .iface 0 (.int .i64 c)
theorem errW_none : errW none = .nilIface := rfl
theorem errW_some (c : Int) : errW (some c) = .iface 0 (.int .i64 c) := rfl

theorem info3 : (Try.prog.info? 3).map (fun i => (i.zero, i.size, i.bytes)) = some (some (.int .i64 0), 1, 8) := by kernel_rfl
-- the values' own types

end Go.Proofs.Ytclodndgieefcaa.PFnExactSwappedAt
