/- Words on memory that the contracts use, chosen by a program of this session (wip/slim.py) out of the kit's print's own words; nothing is assumed. -/
import Derived.Test.YtlainmahnfnhkaaVInv
import Derived.Test.YtlainmahnfnhkaaVFootNe
namespace Go.Proofs.YtlainmahnfnhkaaW.PrintWords
open Go.RowKit
end Go.Proofs.YtlainmahnfnhkaaW.PrintWords
namespace Go.Proofs.YtlainmahnfnhkaaW.PrintLast
section
variable {ops : Array Oper} {a : Act} {o og : Oper} {g : Nat} {t : Tmp} {u : Bool}
end
end Go.Proofs.YtlainmahnfnhkaaW.PrintLast

