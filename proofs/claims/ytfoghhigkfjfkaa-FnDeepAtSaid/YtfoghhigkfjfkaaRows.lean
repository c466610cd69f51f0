/-
  No cell of these rows narrows 'for every input' (looked for: loops, veiled, ifaces, maps, wideKeys, modest, calm, conditions, laid).
  DERIVED. THE GIVEN ROWS OF THIS SEAT. 7 by the template 'for every input the law returns true; each argument reads behind the call as it read before'; 0 by the template 'total and deterministic' (their statements: YtfoghhigkfjfkaaTotals.lean).
  GIVEN WITH THE SEED: the statements are not yours to turn. If you find one false, say at which input.
  Laid BY PROGRAM, IN A SANDBOX (cutbox-rows.mjs): the forced cells as the released guide's own fill.sh prints them over the translation 7320d2ee5eb60aa1… (all of the seat's roots in one cut). By AI agents, Wed Nov 11 2026. No macro, syntax, notation, axiom, sorry.
-/
import Derived.Test.YtfoghhigkfjfkaaChecked
import GoSem.Claim
import GoSem.ClaimJoined
import GoSem.ClaimMapViews
import Derived.JoinedTies
import Derived.KernelRfl
namespace Go.Proofs.Ytfoghhigkfjfkaa
/- THE CELL 'sum', in the pinned program and in every row, IS THE sha256 OF THE DUMP (.gsa) THAT YtfoghhigkfjfkaaProg.lean LOADS. Nothing in Lean hashes anything: it is a label: what it is worth is what the hold of that sum in a sandbox is worth. -/
noncomputable def Try.pinned : Pinned := { name := "ytfoghhigkfjfkaa", sum := "7320d2ee5eb60aa1f695c4942bff1db5db75680a71d75cf651849e10a5b23aab", checked := Try.checked }
namespace Rows
def none {H : Type} : Left H := { results := [], args := [] }

/-- 'laws.FnDeepAt': WHATEVER THE INPUT: true; the input reads as it did. -/
def fnDeepAtSpec : ChangeSpec := { name := "fnDeepAt", fn := fun _ => fun
  | [d] => { results := [.lit (.bool true)], args := [d] }
  | _ => none }
def fnDeepAtRow : OpenClaim := { program := "ytfoghhigkfjfkaa", sum := "7320d2ee5eb60aa1f695c4942bff1db5db75680a71d75cf651849e10a5b23aab", func := "loop.example/onecounter/laws.FnDeepAt", spec := "fnDeepAt", apart := false }
def FnDeepAtSaid : Prop := fnDeepAtRow.holds Try.pinned (OpenSpec.ofChange fnDeepAtSpec)

/-- ITS FALSE NEIGHBOUR: 'it returns false'. Refute it at one input. -/
def fnDeepAtWrong : ChangeSpec := { name := "fnDeepAt", fn := fun _ => fun
  | [d] => { results := [.lit (.bool false)], args := [d] }
  | _ => none }
def FnDeepAtWrongFalsely : Prop := fnDeepAtRow.holds Try.pinned (OpenSpec.ofChange fnDeepAtWrong)

/-- 'laws.FnThereAt': WHATEVER THE INPUT: true; the input reads as it did. -/
def fnThereAtSpec : ChangeSpec := { name := "fnThereAt", fn := fun _ => fun
  | [d] => { results := [.lit (.bool true)], args := [d] }
  | _ => none }
def fnThereAtRow : OpenClaim := { program := "ytfoghhigkfjfkaa", sum := "7320d2ee5eb60aa1f695c4942bff1db5db75680a71d75cf651849e10a5b23aab", func := "loop.example/onecounter/laws.FnThereAt", spec := "fnThereAt", apart := false }
def FnThereAtSaid : Prop := fnThereAtRow.holds Try.pinned (OpenSpec.ofChange fnThereAtSpec)

/-- ITS FALSE NEIGHBOUR: 'it returns false'. Refute it at one input. -/
def fnThereAtWrong : ChangeSpec := { name := "fnThereAt", fn := fun _ => fun
  | [d] => { results := [.lit (.bool false)], args := [d] }
  | _ => none }
def FnThereAtWrongFalsely : Prop := fnThereAtRow.holds Try.pinned (OpenSpec.ofChange fnThereAtWrong)

/-- 'laws.FnExactLeastSum': WHATEVER THE INPUT: true; the input reads as it did. -/
def fnExactLeastSumSpec : ChangeSpec := { name := "fnExactLeastSum", fn := fun _ => fun
  | [d] => { results := [.lit (.bool true)], args := [d] }
  | _ => none }
def fnExactLeastSumRow : OpenClaim := { program := "ytfoghhigkfjfkaa", sum := "7320d2ee5eb60aa1f695c4942bff1db5db75680a71d75cf651849e10a5b23aab", func := "loop.example/onecounter/laws.FnExactLeastSum", spec := "fnExactLeastSum", apart := false }
def FnExactLeastSumSaid : Prop := fnExactLeastSumRow.holds Try.pinned (OpenSpec.ofChange fnExactLeastSumSpec)

/-- ITS FALSE NEIGHBOUR: 'it returns false'. Refute it at one input. -/
def fnExactLeastSumWrong : ChangeSpec := { name := "fnExactLeastSum", fn := fun _ => fun
  | [d] => { results := [.lit (.bool false)], args := [d] }
  | _ => none }
def FnExactLeastSumWrongFalsely : Prop := fnExactLeastSumRow.holds Try.pinned (OpenSpec.ofChange fnExactLeastSumWrong)

/-- 'laws.FnSpreadOf': WHATEVER THE INPUT: true; the input reads as it did. -/
def fnSpreadOfSpec : ChangeSpec := { name := "fnSpreadOf", fn := fun _ => fun
  | [d] => { results := [.lit (.bool true)], args := [d] }
  | _ => none }
def fnSpreadOfRow : OpenClaim := { program := "ytfoghhigkfjfkaa", sum := "7320d2ee5eb60aa1f695c4942bff1db5db75680a71d75cf651849e10a5b23aab", func := "loop.example/onecounter/laws.FnSpreadOf", spec := "fnSpreadOf", apart := false }
def FnSpreadOfSaid : Prop := fnSpreadOfRow.holds Try.pinned (OpenSpec.ofChange fnSpreadOfSpec)

/-- ITS FALSE NEIGHBOUR: 'it returns false'. Refute it at one input. -/
def fnSpreadOfWrong : ChangeSpec := { name := "fnSpreadOf", fn := fun _ => fun
  | [d] => { results := [.lit (.bool false)], args := [d] }
  | _ => none }
def FnSpreadOfWrongFalsely : Prop := fnSpreadOfRow.holds Try.pinned (OpenSpec.ofChange fnSpreadOfWrong)

/-- 'laws.FnLastTimes': WHATEVER THE INPUT: true; the input reads as it did. -/
def fnLastTimesSpec : ChangeSpec := { name := "fnLastTimes", fn := fun _ => fun
  | [d] => { results := [.lit (.bool true)], args := [d] }
  | _ => none }
def fnLastTimesRow : OpenClaim := { program := "ytfoghhigkfjfkaa", sum := "7320d2ee5eb60aa1f695c4942bff1db5db75680a71d75cf651849e10a5b23aab", func := "loop.example/onecounter/laws.FnLastTimes", spec := "fnLastTimes", apart := false }
def FnLastTimesSaid : Prop := fnLastTimesRow.holds Try.pinned (OpenSpec.ofChange fnLastTimesSpec)

/-- ITS FALSE NEIGHBOUR: 'it returns false'. Refute it at one input. -/
def fnLastTimesWrong : ChangeSpec := { name := "fnLastTimes", fn := fun _ => fun
  | [d] => { results := [.lit (.bool false)], args := [d] }
  | _ => none }
def FnLastTimesWrongFalsely : Prop := fnLastTimesRow.holds Try.pinned (OpenSpec.ofChange fnLastTimesWrong)

/-- 'laws.FnExactLastTimes': WHATEVER THE INPUT: true; the input reads as it did. -/
def fnExactLastTimesSpec : ChangeSpec := { name := "fnExactLastTimes", fn := fun _ => fun
  | [d] => { results := [.lit (.bool true)], args := [d] }
  | _ => none }
def fnExactLastTimesRow : OpenClaim := { program := "ytfoghhigkfjfkaa", sum := "7320d2ee5eb60aa1f695c4942bff1db5db75680a71d75cf651849e10a5b23aab", func := "loop.example/onecounter/laws.FnExactLastTimes", spec := "fnExactLastTimes", apart := false }
def FnExactLastTimesSaid : Prop := fnExactLastTimesRow.holds Try.pinned (OpenSpec.ofChange fnExactLastTimesSpec)

/-- ITS FALSE NEIGHBOUR: 'it returns false'. Refute it at one input. -/
def fnExactLastTimesWrong : ChangeSpec := { name := "fnExactLastTimes", fn := fun _ => fun
  | [d] => { results := [.lit (.bool false)], args := [d] }
  | _ => none }
def FnExactLastTimesWrongFalsely : Prop := fnExactLastTimesRow.holds Try.pinned (OpenSpec.ofChange fnExactLastTimesWrong)

/-- 'laws.FnLeastSum': WHATEVER THE INPUT: true; the input reads as it did. -/
def fnLeastSumSpec : ChangeSpec := { name := "fnLeastSum", fn := fun _ => fun
  | [d] => { results := [.lit (.bool true)], args := [d] }
  | _ => none }
def fnLeastSumRow : OpenClaim := { program := "ytfoghhigkfjfkaa", sum := "7320d2ee5eb60aa1f695c4942bff1db5db75680a71d75cf651849e10a5b23aab", func := "loop.example/onecounter/laws.FnLeastSum", spec := "fnLeastSum", apart := false }
def FnLeastSumSaid : Prop := fnLeastSumRow.holds Try.pinned (OpenSpec.ofChange fnLeastSumSpec)

/-- ITS FALSE NEIGHBOUR: 'it returns false'. Refute it at one input. -/
def fnLeastSumWrong : ChangeSpec := { name := "fnLeastSum", fn := fun _ => fun
  | [d] => { results := [.lit (.bool false)], args := [d] }
  | _ => none }
def FnLeastSumWrongFalsely : Prop := fnLeastSumRow.holds Try.pinned (OpenSpec.ofChange fnLeastSumWrong)

/- THE SECOND FORM. 'bulk': how many values and letters a reading holds, each counted each time it is reached (what is shared counts as often as it is met; a slice's spare places count too). A statement '..UptoSaid' is the law's where the arguments, and the package variables that the reading takes, are together of bulk at most 1048576: NARROWER than '..Said'. Prove '..Said' where nothing that the law and all that it calls make is longer than what came in: it says more and counts as full. Else prove '..UptoSaid'. A law counts once. -/
mutual
def uptoBulk {H : Type} : DataW H → Nat
  | .lit (.string bytes) => bytes.length + 1
  | .lit _ => 1
  | .nil => 1
  | .ptr d => uptoBulk d + 1
  | .slice elems spare => uptoBulkAll elems + uptoBulkAll spare + 1
  | .agg parts => uptoBulkAll parts + 1
  | .iface _ d => uptoBulk d + 1
  | .map entries => uptoBulkEntries entries + 1
  | .held _ => 1
def uptoBulkAll {H : Type} : List (DataW H) → Nat
  | [] => 0
  | d :: r => uptoBulk d + uptoBulkAll r
def uptoBulkEntries {H : Type} : List (Lit × DataW H) → Nat
  | [] => 0
  | x :: r => uptoBulkEntry x + uptoBulkEntries r
def uptoBulkEntry {H : Type} : Lit × DataW H → Nat
  | (.string bytes, d) => bytes.length + uptoBulk d + 1
  | (_, d) => uptoBulk d + 1
 end
def uptoSmall : (H : Type) → List (DataW H) → Bool := fun _ ds => decide (uptoBulkAll ds ≤ 1048576)
def OpenSpec.upto (s : _root_.Go.ChangeSpec) : _root_.Go.OpenSpec := { _root_.Go.OpenSpec.ofChange s with cond := some uptoSmall }

/-- 'laws.FnDeepAt', WHERE WHAT IT READS IS OF BULK AT MOST 1048576: true; the input reads as it did. -/
def fnDeepAtUptoRow : OpenClaim := { program := "ytfoghhigkfjfkaa", sum := "7320d2ee5eb60aa1f695c4942bff1db5db75680a71d75cf651849e10a5b23aab", func := "loop.example/onecounter/laws.FnDeepAt", spec := "fnDeepAt", apart := false, narrowed := true }
def FnDeepAtUptoSaid : Prop := fnDeepAtUptoRow.holds Try.pinned (OpenSpec.upto fnDeepAtSpec)

/-- 'laws.FnThereAt', WHERE WHAT IT READS IS OF BULK AT MOST 1048576: true; the input reads as it did. -/
def fnThereAtUptoRow : OpenClaim := { program := "ytfoghhigkfjfkaa", sum := "7320d2ee5eb60aa1f695c4942bff1db5db75680a71d75cf651849e10a5b23aab", func := "loop.example/onecounter/laws.FnThereAt", spec := "fnThereAt", apart := false, narrowed := true }
def FnThereAtUptoSaid : Prop := fnThereAtUptoRow.holds Try.pinned (OpenSpec.upto fnThereAtSpec)

/-- 'laws.FnExactLeastSum', WHERE WHAT IT READS IS OF BULK AT MOST 1048576: true; the input reads as it did. -/
def fnExactLeastSumUptoRow : OpenClaim := { program := "ytfoghhigkfjfkaa", sum := "7320d2ee5eb60aa1f695c4942bff1db5db75680a71d75cf651849e10a5b23aab", func := "loop.example/onecounter/laws.FnExactLeastSum", spec := "fnExactLeastSum", apart := false, narrowed := true }
def FnExactLeastSumUptoSaid : Prop := fnExactLeastSumUptoRow.holds Try.pinned (OpenSpec.upto fnExactLeastSumSpec)

/-- 'laws.FnSpreadOf', WHERE WHAT IT READS IS OF BULK AT MOST 1048576: true; the input reads as it did. -/
def fnSpreadOfUptoRow : OpenClaim := { program := "ytfoghhigkfjfkaa", sum := "7320d2ee5eb60aa1f695c4942bff1db5db75680a71d75cf651849e10a5b23aab", func := "loop.example/onecounter/laws.FnSpreadOf", spec := "fnSpreadOf", apart := false, narrowed := true }
def FnSpreadOfUptoSaid : Prop := fnSpreadOfUptoRow.holds Try.pinned (OpenSpec.upto fnSpreadOfSpec)

/-- 'laws.FnLastTimes', WHERE WHAT IT READS IS OF BULK AT MOST 1048576: true; the input reads as it did. -/
def fnLastTimesUptoRow : OpenClaim := { program := "ytfoghhigkfjfkaa", sum := "7320d2ee5eb60aa1f695c4942bff1db5db75680a71d75cf651849e10a5b23aab", func := "loop.example/onecounter/laws.FnLastTimes", spec := "fnLastTimes", apart := false, narrowed := true }
def FnLastTimesUptoSaid : Prop := fnLastTimesUptoRow.holds Try.pinned (OpenSpec.upto fnLastTimesSpec)

/-- 'laws.FnExactLastTimes', WHERE WHAT IT READS IS OF BULK AT MOST 1048576: true; the input reads as it did. -/
def fnExactLastTimesUptoRow : OpenClaim := { program := "ytfoghhigkfjfkaa", sum := "7320d2ee5eb60aa1f695c4942bff1db5db75680a71d75cf651849e10a5b23aab", func := "loop.example/onecounter/laws.FnExactLastTimes", spec := "fnExactLastTimes", apart := false, narrowed := true }
def FnExactLastTimesUptoSaid : Prop := fnExactLastTimesUptoRow.holds Try.pinned (OpenSpec.upto fnExactLastTimesSpec)

/-- 'laws.FnLeastSum', WHERE WHAT IT READS IS OF BULK AT MOST 1048576: true; the input reads as it did. -/
def fnLeastSumUptoRow : OpenClaim := { program := "ytfoghhigkfjfkaa", sum := "7320d2ee5eb60aa1f695c4942bff1db5db75680a71d75cf651849e10a5b23aab", func := "loop.example/onecounter/laws.FnLeastSum", spec := "fnLeastSum", apart := false, narrowed := true }
def FnLeastSumUptoSaid : Prop := fnLeastSumUptoRow.holds Try.pinned (OpenSpec.upto fnLeastSumSpec)

end Rows
end Go.Proofs.Ytfoghhigkfjfkaa
