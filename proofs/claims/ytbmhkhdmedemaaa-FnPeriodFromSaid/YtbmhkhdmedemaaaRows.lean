/-
  No cell of these rows narrows 'for every input' (looked for: loops, veiled, ifaces, maps, wideKeys, modest, calm, conditions, laid).
  DERIVED. THE GIVEN ROWS OF THIS SEAT. 12 by the template 'for every input the law returns true; each argument reads behind the call as it read before'; 0 by the template 'total and deterministic' (their statements: YtbmhkhdmedemaaaTotals.lean).
  GIVEN WITH THE SEED: the statements are not yours to turn. If you find one false, say at which input.
  Laid BY PROGRAM, IN A SANDBOX (cutbox-rows.mjs): the forced cells as the released guide's own fill.sh prints them over the translation a89ee138615da3e4… (all of the seat's roots in one cut). By AI agents, Wed Nov 11 2026. No macro, syntax, notation, axiom, sorry.
-/
import Derived.Test.YtbmhkhdmedemaaaChecked
import GoSem.Claim
import GoSem.ClaimJoined
import GoSem.ClaimMapViews
import Derived.JoinedTies
import Derived.KernelRfl
namespace Go.Proofs.Ytbmhkhdmedemaaa
/- THE CELL 'sum', in the pinned program and in every row, IS THE sha256 OF THE DUMP (.gsa) THAT YtbmhkhdmedemaaaProg.lean LOADS. Nothing in Lean hashes anything: it is a label: what it is worth is what the hold of that sum in a sandbox is worth. -/
noncomputable def Try.pinned : Pinned := { name := "ytbmhkhdmedemaaa", sum := "a89ee138615da3e41a62d4bbb110e2bdffb6b43f505996d7881983cd9876961e", checked := Try.checked }
namespace Rows
def none {H : Type} : Left H := { results := [], args := [] }

/-- 'laws.FnExactBothOk': WHATEVER THE INPUT: true; the input reads as it did. -/
def fnExactBothOkSpec : ChangeSpec := { name := "fnExactBothOk", fn := fun _ => fun
  | [d] => { results := [.lit (.bool true)], args := [d] }
  | _ => none }
def fnExactBothOkRow : OpenClaim := { program := "ytbmhkhdmedemaaa", sum := "a89ee138615da3e41a62d4bbb110e2bdffb6b43f505996d7881983cd9876961e", func := "loop.example/onecounter/laws.FnExactBothOk", spec := "fnExactBothOk", apart := false }
def FnExactBothOkSaid : Prop := fnExactBothOkRow.holds Try.pinned (OpenSpec.ofChange fnExactBothOkSpec)

/-- ITS FALSE NEIGHBOUR: 'it returns false'. Refute it at one input. -/
def fnExactBothOkWrong : ChangeSpec := { name := "fnExactBothOk", fn := fun _ => fun
  | [d] => { results := [.lit (.bool false)], args := [d] }
  | _ => none }
def FnExactBothOkWrongFalsely : Prop := fnExactBothOkRow.holds Try.pinned (OpenSpec.ofChange fnExactBothOkWrong)

/-- 'laws.FnBothOk': WHATEVER THE INPUT: true; the input reads as it did. -/
def fnBothOkSpec : ChangeSpec := { name := "fnBothOk", fn := fun _ => fun
  | [d] => { results := [.lit (.bool true)], args := [d] }
  | _ => none }
def fnBothOkRow : OpenClaim := { program := "ytbmhkhdmedemaaa", sum := "a89ee138615da3e41a62d4bbb110e2bdffb6b43f505996d7881983cd9876961e", func := "loop.example/onecounter/laws.FnBothOk", spec := "fnBothOk", apart := false }
def FnBothOkSaid : Prop := fnBothOkRow.holds Try.pinned (OpenSpec.ofChange fnBothOkSpec)

/-- ITS FALSE NEIGHBOUR: 'it returns false'. Refute it at one input. -/
def fnBothOkWrong : ChangeSpec := { name := "fnBothOk", fn := fun _ => fun
  | [d] => { results := [.lit (.bool false)], args := [d] }
  | _ => none }
def FnBothOkWrongFalsely : Prop := fnBothOkRow.holds Try.pinned (OpenSpec.ofChange fnBothOkWrong)

/-- 'laws.FnExactLongestWay': WHATEVER THE INPUT: true; the input reads as it did. -/
def fnExactLongestWaySpec : ChangeSpec := { name := "fnExactLongestWay", fn := fun _ => fun
  | [d] => { results := [.lit (.bool true)], args := [d] }
  | _ => none }
def fnExactLongestWayRow : OpenClaim := { program := "ytbmhkhdmedemaaa", sum := "a89ee138615da3e41a62d4bbb110e2bdffb6b43f505996d7881983cd9876961e", func := "loop.example/onecounter/laws.FnExactLongestWay", spec := "fnExactLongestWay", apart := false }
def FnExactLongestWaySaid : Prop := fnExactLongestWayRow.holds Try.pinned (OpenSpec.ofChange fnExactLongestWaySpec)

/-- ITS FALSE NEIGHBOUR: 'it returns false'. Refute it at one input. -/
def fnExactLongestWayWrong : ChangeSpec := { name := "fnExactLongestWay", fn := fun _ => fun
  | [d] => { results := [.lit (.bool false)], args := [d] }
  | _ => none }
def FnExactLongestWayWrongFalsely : Prop := fnExactLongestWayRow.holds Try.pinned (OpenSpec.ofChange fnExactLongestWayWrong)

/-- 'laws.FnExactBackOf': WHATEVER THE INPUT: true; the input reads as it did. -/
def fnExactBackOfSpec : ChangeSpec := { name := "fnExactBackOf", fn := fun _ => fun
  | [d] => { results := [.lit (.bool true)], args := [d] }
  | _ => none }
def fnExactBackOfRow : OpenClaim := { program := "ytbmhkhdmedemaaa", sum := "a89ee138615da3e41a62d4bbb110e2bdffb6b43f505996d7881983cd9876961e", func := "loop.example/onecounter/laws.FnExactBackOf", spec := "fnExactBackOf", apart := false }
def FnExactBackOfSaid : Prop := fnExactBackOfRow.holds Try.pinned (OpenSpec.ofChange fnExactBackOfSpec)

/-- ITS FALSE NEIGHBOUR: 'it returns false'. Refute it at one input. -/
def fnExactBackOfWrong : ChangeSpec := { name := "fnExactBackOf", fn := fun _ => fun
  | [d] => { results := [.lit (.bool false)], args := [d] }
  | _ => none }
def FnExactBackOfWrongFalsely : Prop := fnExactBackOfRow.holds Try.pinned (OpenSpec.ofChange fnExactBackOfWrong)

/-- 'laws.FnBackOf': WHATEVER THE INPUT: true; the input reads as it did. -/
def fnBackOfSpec : ChangeSpec := { name := "fnBackOf", fn := fun _ => fun
  | [d] => { results := [.lit (.bool true)], args := [d] }
  | _ => none }
def fnBackOfRow : OpenClaim := { program := "ytbmhkhdmedemaaa", sum := "a89ee138615da3e41a62d4bbb110e2bdffb6b43f505996d7881983cd9876961e", func := "loop.example/onecounter/laws.FnBackOf", spec := "fnBackOf", apart := false }
def FnBackOfSaid : Prop := fnBackOfRow.holds Try.pinned (OpenSpec.ofChange fnBackOfSpec)

/-- ITS FALSE NEIGHBOUR: 'it returns false'. Refute it at one input. -/
def fnBackOfWrong : ChangeSpec := { name := "fnBackOf", fn := fun _ => fun
  | [d] => { results := [.lit (.bool false)], args := [d] }
  | _ => none }
def FnBackOfWrongFalsely : Prop := fnBackOfRow.holds Try.pinned (OpenSpec.ofChange fnBackOfWrong)

/-- 'laws.FnLongestWay': WHATEVER THE INPUT: true; the input reads as it did. -/
def fnLongestWaySpec : ChangeSpec := { name := "fnLongestWay", fn := fun _ => fun
  | [d] => { results := [.lit (.bool true)], args := [d] }
  | _ => none }
def fnLongestWayRow : OpenClaim := { program := "ytbmhkhdmedemaaa", sum := "a89ee138615da3e41a62d4bbb110e2bdffb6b43f505996d7881983cd9876961e", func := "loop.example/onecounter/laws.FnLongestWay", spec := "fnLongestWay", apart := false }
def FnLongestWaySaid : Prop := fnLongestWayRow.holds Try.pinned (OpenSpec.ofChange fnLongestWaySpec)

/-- ITS FALSE NEIGHBOUR: 'it returns false'. Refute it at one input. -/
def fnLongestWayWrong : ChangeSpec := { name := "fnLongestWay", fn := fun _ => fun
  | [d] => { results := [.lit (.bool false)], args := [d] }
  | _ => none }
def FnLongestWayWrongFalsely : Prop := fnLongestWayRow.holds Try.pinned (OpenSpec.ofChange fnLongestWayWrong)

/-- 'laws.FnExactLeavesBoth': WHATEVER THE INPUT: true; the input reads as it did. -/
def fnExactLeavesBothSpec : ChangeSpec := { name := "fnExactLeavesBoth", fn := fun _ => fun
  | [d] => { results := [.lit (.bool true)], args := [d] }
  | _ => none }
def fnExactLeavesBothRow : OpenClaim := { program := "ytbmhkhdmedemaaa", sum := "a89ee138615da3e41a62d4bbb110e2bdffb6b43f505996d7881983cd9876961e", func := "loop.example/onecounter/laws.FnExactLeavesBoth", spec := "fnExactLeavesBoth", apart := false }
def FnExactLeavesBothSaid : Prop := fnExactLeavesBothRow.holds Try.pinned (OpenSpec.ofChange fnExactLeavesBothSpec)

/-- ITS FALSE NEIGHBOUR: 'it returns false'. Refute it at one input. -/
def fnExactLeavesBothWrong : ChangeSpec := { name := "fnExactLeavesBoth", fn := fun _ => fun
  | [d] => { results := [.lit (.bool false)], args := [d] }
  | _ => none }
def FnExactLeavesBothWrongFalsely : Prop := fnExactLeavesBothRow.holds Try.pinned (OpenSpec.ofChange fnExactLeavesBothWrong)

/-- 'laws.FnExactPeriodFrom': WHATEVER THE INPUT: true; the input reads as it did. -/
def fnExactPeriodFromSpec : ChangeSpec := { name := "fnExactPeriodFrom", fn := fun _ => fun
  | [d1, d2] => { results := [.lit (.bool true)], args := [d1, d2] }
  | _ => none }
def fnExactPeriodFromRow : OpenClaim := { program := "ytbmhkhdmedemaaa", sum := "a89ee138615da3e41a62d4bbb110e2bdffb6b43f505996d7881983cd9876961e", func := "loop.example/onecounter/laws.FnExactPeriodFrom", spec := "fnExactPeriodFrom", apart := false }
def FnExactPeriodFromSaid : Prop := fnExactPeriodFromRow.holds Try.pinned (OpenSpec.ofChange fnExactPeriodFromSpec)

/-- ITS FALSE NEIGHBOUR: 'it returns false'. Refute it at one input. -/
def fnExactPeriodFromWrong : ChangeSpec := { name := "fnExactPeriodFrom", fn := fun _ => fun
  | [d1, d2] => { results := [.lit (.bool false)], args := [d1, d2] }
  | _ => none }
def FnExactPeriodFromWrongFalsely : Prop := fnExactPeriodFromRow.holds Try.pinned (OpenSpec.ofChange fnExactPeriodFromWrong)

/-- 'laws.FnExactLeftFor': WHATEVER THE INPUT: true; the input reads as it did. -/
def fnExactLeftForSpec : ChangeSpec := { name := "fnExactLeftFor", fn := fun _ => fun
  | [d1, d2] => { results := [.lit (.bool true)], args := [d1, d2] }
  | _ => none }
def fnExactLeftForRow : OpenClaim := { program := "ytbmhkhdmedemaaa", sum := "a89ee138615da3e41a62d4bbb110e2bdffb6b43f505996d7881983cd9876961e", func := "loop.example/onecounter/laws.FnExactLeftFor", spec := "fnExactLeftFor", apart := false }
def FnExactLeftForSaid : Prop := fnExactLeftForRow.holds Try.pinned (OpenSpec.ofChange fnExactLeftForSpec)

/-- ITS FALSE NEIGHBOUR: 'it returns false'. Refute it at one input. -/
def fnExactLeftForWrong : ChangeSpec := { name := "fnExactLeftFor", fn := fun _ => fun
  | [d1, d2] => { results := [.lit (.bool false)], args := [d1, d2] }
  | _ => none }
def FnExactLeftForWrongFalsely : Prop := fnExactLeftForRow.holds Try.pinned (OpenSpec.ofChange fnExactLeftForWrong)

/-- 'laws.FnLeftFor': WHATEVER THE INPUT: true; the input reads as it did. -/
def fnLeftForSpec : ChangeSpec := { name := "fnLeftFor", fn := fun _ => fun
  | [d] => { results := [.lit (.bool true)], args := [d] }
  | _ => none }
def fnLeftForRow : OpenClaim := { program := "ytbmhkhdmedemaaa", sum := "a89ee138615da3e41a62d4bbb110e2bdffb6b43f505996d7881983cd9876961e", func := "loop.example/onecounter/laws.FnLeftFor", spec := "fnLeftFor", apart := false }
def FnLeftForSaid : Prop := fnLeftForRow.holds Try.pinned (OpenSpec.ofChange fnLeftForSpec)

/-- ITS FALSE NEIGHBOUR: 'it returns false'. Refute it at one input. -/
def fnLeftForWrong : ChangeSpec := { name := "fnLeftFor", fn := fun _ => fun
  | [d] => { results := [.lit (.bool false)], args := [d] }
  | _ => none }
def FnLeftForWrongFalsely : Prop := fnLeftForRow.holds Try.pinned (OpenSpec.ofChange fnLeftForWrong)

/-- 'laws.FnExactDeepAt': WHATEVER THE INPUT: true; the input reads as it did. -/
def fnExactDeepAtSpec : ChangeSpec := { name := "fnExactDeepAt", fn := fun _ => fun
  | [d1, d2] => { results := [.lit (.bool true)], args := [d1, d2] }
  | _ => none }
def fnExactDeepAtRow : OpenClaim := { program := "ytbmhkhdmedemaaa", sum := "a89ee138615da3e41a62d4bbb110e2bdffb6b43f505996d7881983cd9876961e", func := "loop.example/onecounter/laws.FnExactDeepAt", spec := "fnExactDeepAt", apart := false }
def FnExactDeepAtSaid : Prop := fnExactDeepAtRow.holds Try.pinned (OpenSpec.ofChange fnExactDeepAtSpec)

/-- ITS FALSE NEIGHBOUR: 'it returns false'. Refute it at one input. -/
def fnExactDeepAtWrong : ChangeSpec := { name := "fnExactDeepAt", fn := fun _ => fun
  | [d1, d2] => { results := [.lit (.bool false)], args := [d1, d2] }
  | _ => none }
def FnExactDeepAtWrongFalsely : Prop := fnExactDeepAtRow.holds Try.pinned (OpenSpec.ofChange fnExactDeepAtWrong)

/-- 'laws.FnPeriodFrom': WHATEVER THE INPUT: true; the input reads as it did. -/
def fnPeriodFromSpec : ChangeSpec := { name := "fnPeriodFrom", fn := fun _ => fun
  | [d] => { results := [.lit (.bool true)], args := [d] }
  | _ => none }
def fnPeriodFromRow : OpenClaim := { program := "ytbmhkhdmedemaaa", sum := "a89ee138615da3e41a62d4bbb110e2bdffb6b43f505996d7881983cd9876961e", func := "loop.example/onecounter/laws.FnPeriodFrom", spec := "fnPeriodFrom", apart := false }
def FnPeriodFromSaid : Prop := fnPeriodFromRow.holds Try.pinned (OpenSpec.ofChange fnPeriodFromSpec)

/-- ITS FALSE NEIGHBOUR: 'it returns false'. Refute it at one input. -/
def fnPeriodFromWrong : ChangeSpec := { name := "fnPeriodFrom", fn := fun _ => fun
  | [d] => { results := [.lit (.bool false)], args := [d] }
  | _ => none }
def FnPeriodFromWrongFalsely : Prop := fnPeriodFromRow.holds Try.pinned (OpenSpec.ofChange fnPeriodFromWrong)

/- THE SECOND FORM. 'bulk': how many values and letters a reading holds, each counted each time it is reached (what is shared counts as often as it is met; a slice's spare places count too). A statement '..UptoSaid' is the law's where the arguments, and the package variables that the reading takes, are together of bulk at most 1048576: NARROWER than '..Said'. Prove '..Said' where nothing that the law and all that it calls make is longer than what came in: it says more and counts as full. Else prove '..UptoSaid'. A law counts once. -/
mutual
def uptoBulk {H : Type} : DataW H → Nat
  | .lit (.string bytes) => bytes.length + 1
  | .lit _ => 1
  | .nil => 1
  | .ptr d => uptoBulk d + 1
  | .slice elems spare => uptoBulkAll elems + uptoBulkAll spare + 1
  | .agg parts => uptoBulkAll parts + 1
  | .iface _ d => uptoBulk d + 1
  | .map entries => uptoBulkEntries entries + 1
  | .held _ => 1
def uptoBulkAll {H : Type} : List (DataW H) → Nat
  | [] => 0
  | d :: r => uptoBulk d + uptoBulkAll r
def uptoBulkEntries {H : Type} : List (Lit × DataW H) → Nat
  | [] => 0
  | x :: r => uptoBulkEntry x + uptoBulkEntries r
def uptoBulkEntry {H : Type} : Lit × DataW H → Nat
  | (.string bytes, d) => bytes.length + uptoBulk d + 1
  | (_, d) => uptoBulk d + 1
 end
def uptoSmall : (H : Type) → List (DataW H) → Bool := fun _ ds => decide (uptoBulkAll ds ≤ 1048576)
def OpenSpec.upto (s : _root_.Go.ChangeSpec) : _root_.Go.OpenSpec := { _root_.Go.OpenSpec.ofChange s with cond := some uptoSmall }

/-- 'laws.FnExactBothOk', WHERE WHAT IT READS IS OF BULK AT MOST 1048576: true; the input reads as it did. -/
def fnExactBothOkUptoRow : OpenClaim := { program := "ytbmhkhdmedemaaa", sum := "a89ee138615da3e41a62d4bbb110e2bdffb6b43f505996d7881983cd9876961e", func := "loop.example/onecounter/laws.FnExactBothOk", spec := "fnExactBothOk", apart := false, narrowed := true }
def FnExactBothOkUptoSaid : Prop := fnExactBothOkUptoRow.holds Try.pinned (OpenSpec.upto fnExactBothOkSpec)

/-- 'laws.FnBothOk', WHERE WHAT IT READS IS OF BULK AT MOST 1048576: true; the input reads as it did. -/
def fnBothOkUptoRow : OpenClaim := { program := "ytbmhkhdmedemaaa", sum := "a89ee138615da3e41a62d4bbb110e2bdffb6b43f505996d7881983cd9876961e", func := "loop.example/onecounter/laws.FnBothOk", spec := "fnBothOk", apart := false, narrowed := true }
def FnBothOkUptoSaid : Prop := fnBothOkUptoRow.holds Try.pinned (OpenSpec.upto fnBothOkSpec)

/-- 'laws.FnExactLongestWay', WHERE WHAT IT READS IS OF BULK AT MOST 1048576: true; the input reads as it did. -/
def fnExactLongestWayUptoRow : OpenClaim := { program := "ytbmhkhdmedemaaa", sum := "a89ee138615da3e41a62d4bbb110e2bdffb6b43f505996d7881983cd9876961e", func := "loop.example/onecounter/laws.FnExactLongestWay", spec := "fnExactLongestWay", apart := false, narrowed := true }
def FnExactLongestWayUptoSaid : Prop := fnExactLongestWayUptoRow.holds Try.pinned (OpenSpec.upto fnExactLongestWaySpec)

/-- 'laws.FnExactBackOf', WHERE WHAT IT READS IS OF BULK AT MOST 1048576: true; the input reads as it did. -/
def fnExactBackOfUptoRow : OpenClaim := { program := "ytbmhkhdmedemaaa", sum := "a89ee138615da3e41a62d4bbb110e2bdffb6b43f505996d7881983cd9876961e", func := "loop.example/onecounter/laws.FnExactBackOf", spec := "fnExactBackOf", apart := false, narrowed := true }
def FnExactBackOfUptoSaid : Prop := fnExactBackOfUptoRow.holds Try.pinned (OpenSpec.upto fnExactBackOfSpec)

/-- 'laws.FnBackOf', WHERE WHAT IT READS IS OF BULK AT MOST 1048576: true; the input reads as it did. -/
def fnBackOfUptoRow : OpenClaim := { program := "ytbmhkhdmedemaaa", sum := "a89ee138615da3e41a62d4bbb110e2bdffb6b43f505996d7881983cd9876961e", func := "loop.example/onecounter/laws.FnBackOf", spec := "fnBackOf", apart := false, narrowed := true }
def FnBackOfUptoSaid : Prop := fnBackOfUptoRow.holds Try.pinned (OpenSpec.upto fnBackOfSpec)

/-- 'laws.FnLongestWay', WHERE WHAT IT READS IS OF BULK AT MOST 1048576: true; the input reads as it did. -/
def fnLongestWayUptoRow : OpenClaim := { program := "ytbmhkhdmedemaaa", sum := "a89ee138615da3e41a62d4bbb110e2bdffb6b43f505996d7881983cd9876961e", func := "loop.example/onecounter/laws.FnLongestWay", spec := "fnLongestWay", apart := false, narrowed := true }
def FnLongestWayUptoSaid : Prop := fnLongestWayUptoRow.holds Try.pinned (OpenSpec.upto fnLongestWaySpec)

/-- 'laws.FnExactLeavesBoth', WHERE WHAT IT READS IS OF BULK AT MOST 1048576: true; the input reads as it did. -/
def fnExactLeavesBothUptoRow : OpenClaim := { program := "ytbmhkhdmedemaaa", sum := "a89ee138615da3e41a62d4bbb110e2bdffb6b43f505996d7881983cd9876961e", func := "loop.example/onecounter/laws.FnExactLeavesBoth", spec := "fnExactLeavesBoth", apart := false, narrowed := true }
def FnExactLeavesBothUptoSaid : Prop := fnExactLeavesBothUptoRow.holds Try.pinned (OpenSpec.upto fnExactLeavesBothSpec)

/-- 'laws.FnExactPeriodFrom', WHERE WHAT IT READS IS OF BULK AT MOST 1048576: true; the input reads as it did. -/
def fnExactPeriodFromUptoRow : OpenClaim := { program := "ytbmhkhdmedemaaa", sum := "a89ee138615da3e41a62d4bbb110e2bdffb6b43f505996d7881983cd9876961e", func := "loop.example/onecounter/laws.FnExactPeriodFrom", spec := "fnExactPeriodFrom", apart := false, narrowed := true }
def FnExactPeriodFromUptoSaid : Prop := fnExactPeriodFromUptoRow.holds Try.pinned (OpenSpec.upto fnExactPeriodFromSpec)

/-- 'laws.FnExactLeftFor', WHERE WHAT IT READS IS OF BULK AT MOST 1048576: true; the input reads as it did. -/
def fnExactLeftForUptoRow : OpenClaim := { program := "ytbmhkhdmedemaaa", sum := "a89ee138615da3e41a62d4bbb110e2bdffb6b43f505996d7881983cd9876961e", func := "loop.example/onecounter/laws.FnExactLeftFor", spec := "fnExactLeftFor", apart := false, narrowed := true }
def FnExactLeftForUptoSaid : Prop := fnExactLeftForUptoRow.holds Try.pinned (OpenSpec.upto fnExactLeftForSpec)

/-- 'laws.FnLeftFor', WHERE WHAT IT READS IS OF BULK AT MOST 1048576: true; the input reads as it did. -/
def fnLeftForUptoRow : OpenClaim := { program := "ytbmhkhdmedemaaa", sum := "a89ee138615da3e41a62d4bbb110e2bdffb6b43f505996d7881983cd9876961e", func := "loop.example/onecounter/laws.FnLeftFor", spec := "fnLeftFor", apart := false, narrowed := true }
def FnLeftForUptoSaid : Prop := fnLeftForUptoRow.holds Try.pinned (OpenSpec.upto fnLeftForSpec)

/-- 'laws.FnExactDeepAt', WHERE WHAT IT READS IS OF BULK AT MOST 1048576: true; the input reads as it did. -/
def fnExactDeepAtUptoRow : OpenClaim := { program := "ytbmhkhdmedemaaa", sum := "a89ee138615da3e41a62d4bbb110e2bdffb6b43f505996d7881983cd9876961e", func := "loop.example/onecounter/laws.FnExactDeepAt", spec := "fnExactDeepAt", apart := false, narrowed := true }
def FnExactDeepAtUptoSaid : Prop := fnExactDeepAtUptoRow.holds Try.pinned (OpenSpec.upto fnExactDeepAtSpec)

/-- 'laws.FnPeriodFrom', WHERE WHAT IT READS IS OF BULK AT MOST 1048576: true; the input reads as it did. -/
def fnPeriodFromUptoRow : OpenClaim := { program := "ytbmhkhdmedemaaa", sum := "a89ee138615da3e41a62d4bbb110e2bdffb6b43f505996d7881983cd9876961e", func := "loop.example/onecounter/laws.FnPeriodFrom", spec := "fnPeriodFrom", apart := false, narrowed := true }
def FnPeriodFromUptoSaid : Prop := fnPeriodFromUptoRow.holds Try.pinned (OpenSpec.upto fnPeriodFromSpec)

end Rows
end Go.Proofs.Ytbmhkhdmedemaaa
