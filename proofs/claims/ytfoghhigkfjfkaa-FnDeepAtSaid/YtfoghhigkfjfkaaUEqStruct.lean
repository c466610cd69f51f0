/- Words on memory that the contracts use, chosen by a program of this session (wip/slim.py) out of the kit's print's own words; nothing is assumed. -/
import Derived.Test.YtfoghhigkfjfkaaUWords
import Derived.Laws.StructEq
/-! ### 53. '==' of structs as_ one Bool -/
namespace Go.Proofs.YtfoghhigkfjfkaaW.PrintWords
open Go.RowKit
section
variable {P : Program} {d : Nat} {xs ys : Array Value} {f : Field} {fs : List Field} {a b : Value} {r s : Bool} {w : World}
end
end Go.Proofs.YtfoghhigkfjfkaaW.PrintWords

