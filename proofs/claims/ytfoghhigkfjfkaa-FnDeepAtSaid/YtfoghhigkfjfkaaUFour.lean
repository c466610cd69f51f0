/- Words on memory that the contracts use, chosen by a program of this session (wip/slim.py) out of the kit's print's own words; nothing is assumed. -/
import Derived.Test.YtfoghhigkfjfkaaUTab
/-! ### 56. Four, five, six operations that may come up next, in any order -/
namespace Go.Proofs.YtfoghhigkfjfkaaW.PrintLast
section
variable {P : Program} {ops : Array Oper} {Q : Exit → Act → World → Prop} {md : Region.Mode} {S : World → Prop} {ds : List Nat} {T : Bool × List (List Nat × List Nat)}
end
end Go.Proofs.YtfoghhigkfjfkaaW.PrintLast

