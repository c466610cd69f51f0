/- Words on memory that the contracts use, chosen by a program of this session (wip/slim.py) out of the kit's print's own words; nothing is assumed. -/
import Derived.Test.YtfoghhigkfjfkaaUInv
import Derived.Test.YtfoghhigkfjfkaaUFootNe
namespace Go.Proofs.YtfoghhigkfjfkaaW.PrintWords
open Go.RowKit
end Go.Proofs.YtfoghhigkfjfkaaW.PrintWords
namespace Go.Proofs.YtfoghhigkfjfkaaW.PrintLast
section
variable {ops : Array Oper} {a : Act} {o og : Oper} {g : Nat} {t : Tmp} {u : Bool}
end
end Go.Proofs.YtfoghhigkfjfkaaW.PrintLast

