/-
  No cell of these rows narrows 'for every input' (looked for: loops, veiled, ifaces, maps, wideKeys, modest, calm, conditions, laid).
  DERIVED. THE GIVEN ROWS OF THIS SEAT. 12 by the template 'for every input the law returns true; each argument reads behind the call as it read before'; 0 by the template 'total and deterministic' (their statements: YtlainmahnfnhkaaTotals.lean).
  GIVEN WITH THE SEED: the statements are not yours to turn. If you find one false, say at which input.
  Laid BY PROGRAM, IN A SANDBOX (cutbox-rows.mjs): the forced cells as the released guide's own fill.sh prints them over the translation 4abd81c60844a83d… (all of the seat's roots in one cut). By AI agents, Wed Nov 11 2026. No macro, syntax, notation, axiom, sorry.
-/
import Derived.Test.YtlainmahnfnhkaaChecked
import GoSem.Claim
import GoSem.ClaimJoined
import GoSem.ClaimMapViews
import Derived.JoinedTies
import Derived.KernelRfl
namespace Go.Proofs.Ytlainmahnfnhkaa
/- THE CELL 'sum', in the pinned program and in every row, IS THE sha256 OF THE DUMP (.gsa) THAT YtlainmahnfnhkaaProg.lean LOADS. Nothing in Lean hashes anything: it is a label: what it is worth is what the hold of that sum in a sandbox is worth. -/
noncomputable def Try.pinned : Pinned := { name := "ytlainmahnfnhkaa", sum := "4abd81c60844a83d33414851f47dc184342d6e83b202ac3c3f2140136b380ce7", checked := Try.checked }
namespace Rows
def none {H : Type} : Left H := { results := [], args := [] }

/-- 'laws.FnWaitingArea': WHATEVER THE INPUT: true; the input reads as it did. -/
def fnWaitingAreaSpec : ChangeSpec := { name := "fnWaitingArea", fn := fun _ => fun
  | [d] => { results := [.lit (.bool true)], args := [d] }
  | _ => none }
def fnWaitingAreaRow : OpenClaim := { program := "ytlainmahnfnhkaa", sum := "4abd81c60844a83d33414851f47dc184342d6e83b202ac3c3f2140136b380ce7", func := "loop.example/onecounter/laws.FnWaitingArea", spec := "fnWaitingArea", apart := false }
def FnWaitingAreaSaid : Prop := fnWaitingAreaRow.holds Try.pinned (OpenSpec.ofChange fnWaitingAreaSpec)

/-- ITS FALSE NEIGHBOUR: 'it returns false'. Refute it at one input. -/
def fnWaitingAreaWrong : ChangeSpec := { name := "fnWaitingArea", fn := fun _ => fun
  | [d] => { results := [.lit (.bool false)], args := [d] }
  | _ => none }
def FnWaitingAreaWrongFalsely : Prop := fnWaitingAreaRow.holds Try.pinned (OpenSpec.ofChange fnWaitingAreaWrong)

/-- 'laws.FnExactWorkArea': WHATEVER THE INPUT: true; the input reads as it did. -/
def fnExactWorkAreaSpec : ChangeSpec := { name := "fnExactWorkArea", fn := fun _ => fun
  | [d] => { results := [.lit (.bool true)], args := [d] }
  | _ => none }
def fnExactWorkAreaRow : OpenClaim := { program := "ytlainmahnfnhkaa", sum := "4abd81c60844a83d33414851f47dc184342d6e83b202ac3c3f2140136b380ce7", func := "loop.example/onecounter/laws.FnExactWorkArea", spec := "fnExactWorkArea", apart := false }
def FnExactWorkAreaSaid : Prop := fnExactWorkAreaRow.holds Try.pinned (OpenSpec.ofChange fnExactWorkAreaSpec)

/-- ITS FALSE NEIGHBOUR: 'it returns false'. Refute it at one input. -/
def fnExactWorkAreaWrong : ChangeSpec := { name := "fnExactWorkArea", fn := fun _ => fun
  | [d] => { results := [.lit (.bool false)], args := [d] }
  | _ => none }
def FnExactWorkAreaWrongFalsely : Prop := fnExactWorkAreaRow.holds Try.pinned (OpenSpec.ofChange fnExactWorkAreaWrong)

/-- 'laws.FnSumOf': WHATEVER THE INPUT: true; the input reads as it did. -/
def fnSumOfSpec : ChangeSpec := { name := "fnSumOf", fn := fun _ => fun
  | [d] => { results := [.lit (.bool true)], args := [d] }
  | _ => none }
def fnSumOfRow : OpenClaim := { program := "ytlainmahnfnhkaa", sum := "4abd81c60844a83d33414851f47dc184342d6e83b202ac3c3f2140136b380ce7", func := "loop.example/onecounter/laws.FnSumOf", spec := "fnSumOf", apart := false }
def FnSumOfSaid : Prop := fnSumOfRow.holds Try.pinned (OpenSpec.ofChange fnSumOfSpec)

/-- ITS FALSE NEIGHBOUR: 'it returns false'. Refute it at one input. -/
def fnSumOfWrong : ChangeSpec := { name := "fnSumOf", fn := fun _ => fun
  | [d] => { results := [.lit (.bool false)], args := [d] }
  | _ => none }
def FnSumOfWrongFalsely : Prop := fnSumOfRow.holds Try.pinned (OpenSpec.ofChange fnSumOfWrong)

/-- 'laws.FnExactWorkBy': WHATEVER THE INPUT: true; the input reads as it did. -/
def fnExactWorkBySpec : ChangeSpec := { name := "fnExactWorkBy", fn := fun _ => fun
  | [d] => { results := [.lit (.bool true)], args := [d] }
  | _ => none }
def fnExactWorkByRow : OpenClaim := { program := "ytlainmahnfnhkaa", sum := "4abd81c60844a83d33414851f47dc184342d6e83b202ac3c3f2140136b380ce7", func := "loop.example/onecounter/laws.FnExactWorkBy", spec := "fnExactWorkBy", apart := false }
def FnExactWorkBySaid : Prop := fnExactWorkByRow.holds Try.pinned (OpenSpec.ofChange fnExactWorkBySpec)

/-- ITS FALSE NEIGHBOUR: 'it returns false'. Refute it at one input. -/
def fnExactWorkByWrong : ChangeSpec := { name := "fnExactWorkBy", fn := fun _ => fun
  | [d] => { results := [.lit (.bool false)], args := [d] }
  | _ => none }
def FnExactWorkByWrongFalsely : Prop := fnExactWorkByRow.holds Try.pinned (OpenSpec.ofChange fnExactWorkByWrong)

/-- 'laws.FnWorkBy': WHATEVER THE INPUT: true; the input reads as it did. -/
def fnWorkBySpec : ChangeSpec := { name := "fnWorkBy", fn := fun _ => fun
  | [d] => { results := [.lit (.bool true)], args := [d] }
  | _ => none }
def fnWorkByRow : OpenClaim := { program := "ytlainmahnfnhkaa", sum := "4abd81c60844a83d33414851f47dc184342d6e83b202ac3c3f2140136b380ce7", func := "loop.example/onecounter/laws.FnWorkBy", spec := "fnWorkBy", apart := false }
def FnWorkBySaid : Prop := fnWorkByRow.holds Try.pinned (OpenSpec.ofChange fnWorkBySpec)

/-- ITS FALSE NEIGHBOUR: 'it returns false'. Refute it at one input. -/
def fnWorkByWrong : ChangeSpec := { name := "fnWorkBy", fn := fun _ => fun
  | [d] => { results := [.lit (.bool false)], args := [d] }
  | _ => none }
def FnWorkByWrongFalsely : Prop := fnWorkByRow.holds Try.pinned (OpenSpec.ofChange fnWorkByWrong)

/-- 'laws.FnWorkArea': WHATEVER THE INPUT: true; the input reads as it did. -/
def fnWorkAreaSpec : ChangeSpec := { name := "fnWorkArea", fn := fun _ => fun
  | [d] => { results := [.lit (.bool true)], args := [d] }
  | _ => none }
def fnWorkAreaRow : OpenClaim := { program := "ytlainmahnfnhkaa", sum := "4abd81c60844a83d33414851f47dc184342d6e83b202ac3c3f2140136b380ce7", func := "loop.example/onecounter/laws.FnWorkArea", spec := "fnWorkArea", apart := false }
def FnWorkAreaSaid : Prop := fnWorkAreaRow.holds Try.pinned (OpenSpec.ofChange fnWorkAreaSpec)

/-- ITS FALSE NEIGHBOUR: 'it returns false'. Refute it at one input. -/
def fnWorkAreaWrong : ChangeSpec := { name := "fnWorkArea", fn := fun _ => fun
  | [d] => { results := [.lit (.bool false)], args := [d] }
  | _ => none }
def FnWorkAreaWrongFalsely : Prop := fnWorkAreaRow.holds Try.pinned (OpenSpec.ofChange fnWorkAreaWrong)

/-- 'laws.FnExactSumOf': WHATEVER THE INPUT: true; the input reads as it did. -/
def fnExactSumOfSpec : ChangeSpec := { name := "fnExactSumOf", fn := fun _ => fun
  | [d1, d2] => { results := [.lit (.bool true)], args := [d1, d2] }
  | _ => none }
def fnExactSumOfRow : OpenClaim := { program := "ytlainmahnfnhkaa", sum := "4abd81c60844a83d33414851f47dc184342d6e83b202ac3c3f2140136b380ce7", func := "loop.example/onecounter/laws.FnExactSumOf", spec := "fnExactSumOf", apart := false }
def FnExactSumOfSaid : Prop := fnExactSumOfRow.holds Try.pinned (OpenSpec.ofChange fnExactSumOfSpec)

/-- ITS FALSE NEIGHBOUR: 'it returns false'. Refute it at one input. -/
def fnExactSumOfWrong : ChangeSpec := { name := "fnExactSumOf", fn := fun _ => fun
  | [d1, d2] => { results := [.lit (.bool false)], args := [d1, d2] }
  | _ => none }
def FnExactSumOfWrongFalsely : Prop := fnExactSumOfRow.holds Try.pinned (OpenSpec.ofChange fnExactSumOfWrong)

/-- 'laws.FnExactTimesOf': WHATEVER THE INPUT: true; the input reads as it did. -/
def fnExactTimesOfSpec : ChangeSpec := { name := "fnExactTimesOf", fn := fun _ => fun
  | [d1, d2] => { results := [.lit (.bool true)], args := [d1, d2] }
  | _ => none }
def fnExactTimesOfRow : OpenClaim := { program := "ytlainmahnfnhkaa", sum := "4abd81c60844a83d33414851f47dc184342d6e83b202ac3c3f2140136b380ce7", func := "loop.example/onecounter/laws.FnExactTimesOf", spec := "fnExactTimesOf", apart := false }
def FnExactTimesOfSaid : Prop := fnExactTimesOfRow.holds Try.pinned (OpenSpec.ofChange fnExactTimesOfSpec)

/-- ITS FALSE NEIGHBOUR: 'it returns false'. Refute it at one input. -/
def fnExactTimesOfWrong : ChangeSpec := { name := "fnExactTimesOf", fn := fun _ => fun
  | [d1, d2] => { results := [.lit (.bool false)], args := [d1, d2] }
  | _ => none }
def FnExactTimesOfWrongFalsely : Prop := fnExactTimesOfRow.holds Try.pinned (OpenSpec.ofChange fnExactTimesOfWrong)

/-- 'laws.FnExactAreaOf': WHATEVER THE INPUT: true; the input reads as it did. -/
def fnExactAreaOfSpec : ChangeSpec := { name := "fnExactAreaOf", fn := fun _ => fun
  | [d1, d2] => { results := [.lit (.bool true)], args := [d1, d2] }
  | _ => none }
def fnExactAreaOfRow : OpenClaim := { program := "ytlainmahnfnhkaa", sum := "4abd81c60844a83d33414851f47dc184342d6e83b202ac3c3f2140136b380ce7", func := "loop.example/onecounter/laws.FnExactAreaOf", spec := "fnExactAreaOf", apart := false }
def FnExactAreaOfSaid : Prop := fnExactAreaOfRow.holds Try.pinned (OpenSpec.ofChange fnExactAreaOfSpec)

/-- ITS FALSE NEIGHBOUR: 'it returns false'. Refute it at one input. -/
def fnExactAreaOfWrong : ChangeSpec := { name := "fnExactAreaOf", fn := fun _ => fun
  | [d1, d2] => { results := [.lit (.bool false)], args := [d1, d2] }
  | _ => none }
def FnExactAreaOfWrongFalsely : Prop := fnExactAreaOfRow.holds Try.pinned (OpenSpec.ofChange fnExactAreaOfWrong)

/-- 'laws.FnExactWaitingArea': WHATEVER THE INPUT: true; the input reads as it did. -/
def fnExactWaitingAreaSpec : ChangeSpec := { name := "fnExactWaitingArea", fn := fun _ => fun
  | [d1, d2] => { results := [.lit (.bool true)], args := [d1, d2] }
  | _ => none }
def fnExactWaitingAreaRow : OpenClaim := { program := "ytlainmahnfnhkaa", sum := "4abd81c60844a83d33414851f47dc184342d6e83b202ac3c3f2140136b380ce7", func := "loop.example/onecounter/laws.FnExactWaitingArea", spec := "fnExactWaitingArea", apart := false }
def FnExactWaitingAreaSaid : Prop := fnExactWaitingAreaRow.holds Try.pinned (OpenSpec.ofChange fnExactWaitingAreaSpec)

/-- ITS FALSE NEIGHBOUR: 'it returns false'. Refute it at one input. -/
def fnExactWaitingAreaWrong : ChangeSpec := { name := "fnExactWaitingArea", fn := fun _ => fun
  | [d1, d2] => { results := [.lit (.bool false)], args := [d1, d2] }
  | _ => none }
def FnExactWaitingAreaWrongFalsely : Prop := fnExactWaitingAreaRow.holds Try.pinned (OpenSpec.ofChange fnExactWaitingAreaWrong)

/-- 'laws.FnTimesOf': WHATEVER THE INPUT: true; the input reads as it did. -/
def fnTimesOfSpec : ChangeSpec := { name := "fnTimesOf", fn := fun _ => fun
  | [d] => { results := [.lit (.bool true)], args := [d] }
  | _ => none }
def fnTimesOfRow : OpenClaim := { program := "ytlainmahnfnhkaa", sum := "4abd81c60844a83d33414851f47dc184342d6e83b202ac3c3f2140136b380ce7", func := "loop.example/onecounter/laws.FnTimesOf", spec := "fnTimesOf", apart := false }
def FnTimesOfSaid : Prop := fnTimesOfRow.holds Try.pinned (OpenSpec.ofChange fnTimesOfSpec)

/-- ITS FALSE NEIGHBOUR: 'it returns false'. Refute it at one input. -/
def fnTimesOfWrong : ChangeSpec := { name := "fnTimesOf", fn := fun _ => fun
  | [d] => { results := [.lit (.bool false)], args := [d] }
  | _ => none }
def FnTimesOfWrongFalsely : Prop := fnTimesOfRow.holds Try.pinned (OpenSpec.ofChange fnTimesOfWrong)

/-- 'laws.FnAreaOf': WHATEVER THE INPUT: true; the input reads as it did. -/
def fnAreaOfSpec : ChangeSpec := { name := "fnAreaOf", fn := fun _ => fun
  | [d] => { results := [.lit (.bool true)], args := [d] }
  | _ => none }
def fnAreaOfRow : OpenClaim := { program := "ytlainmahnfnhkaa", sum := "4abd81c60844a83d33414851f47dc184342d6e83b202ac3c3f2140136b380ce7", func := "loop.example/onecounter/laws.FnAreaOf", spec := "fnAreaOf", apart := false }
def FnAreaOfSaid : Prop := fnAreaOfRow.holds Try.pinned (OpenSpec.ofChange fnAreaOfSpec)

/-- ITS FALSE NEIGHBOUR: 'it returns false'. Refute it at one input. -/
def fnAreaOfWrong : ChangeSpec := { name := "fnAreaOf", fn := fun _ => fun
  | [d] => { results := [.lit (.bool false)], args := [d] }
  | _ => none }
def FnAreaOfWrongFalsely : Prop := fnAreaOfRow.holds Try.pinned (OpenSpec.ofChange fnAreaOfWrong)

/- THE SECOND FORM. 'bulk': how many values and letters a reading holds, each counted each time it is reached (what is shared counts as often as it is met; a slice's spare places count too). A statement '..UptoSaid' is the law's where the arguments, and the package variables that the reading takes, are together of bulk at most 1048576: NARROWER than '..Said'. Prove '..Said' where nothing that the law and all that it calls make is longer than what came in: it says more and counts as full. Else prove '..UptoSaid'. A law counts once. -/
mutual
def uptoBulk {H : Type} : DataW H → Nat
  | .lit (.string bytes) => bytes.length + 1
  | .lit _ => 1
  | .nil => 1
  | .ptr d => uptoBulk d + 1
  | .slice elems spare => uptoBulkAll elems + uptoBulkAll spare + 1
  | .agg parts => uptoBulkAll parts + 1
  | .iface _ d => uptoBulk d + 1
  | .map entries => uptoBulkEntries entries + 1
  | .held _ => 1
def uptoBulkAll {H : Type} : List (DataW H) → Nat
  | [] => 0
  | d :: r => uptoBulk d + uptoBulkAll r
def uptoBulkEntries {H : Type} : List (Lit × DataW H) → Nat
  | [] => 0
  | x :: r => uptoBulkEntry x + uptoBulkEntries r
def uptoBulkEntry {H : Type} : Lit × DataW H → Nat
  | (.string bytes, d) => bytes.length + uptoBulk d + 1
  | (_, d) => uptoBulk d + 1
 end
def uptoSmall : (H : Type) → List (DataW H) → Bool := fun _ ds => decide (uptoBulkAll ds ≤ 1048576)
def OpenSpec.upto (s : _root_.Go.ChangeSpec) : _root_.Go.OpenSpec := { _root_.Go.OpenSpec.ofChange s with cond := some uptoSmall }

/-- 'laws.FnWaitingArea', WHERE WHAT IT READS IS OF BULK AT MOST 1048576: true; the input reads as it did. -/
def fnWaitingAreaUptoRow : OpenClaim := { program := "ytlainmahnfnhkaa", sum := "4abd81c60844a83d33414851f47dc184342d6e83b202ac3c3f2140136b380ce7", func := "loop.example/onecounter/laws.FnWaitingArea", spec := "fnWaitingArea", apart := false, narrowed := true }
def FnWaitingAreaUptoSaid : Prop := fnWaitingAreaUptoRow.holds Try.pinned (OpenSpec.upto fnWaitingAreaSpec)

/-- 'laws.FnExactWorkArea', WHERE WHAT IT READS IS OF BULK AT MOST 1048576: true; the input reads as it did. -/
def fnExactWorkAreaUptoRow : OpenClaim := { program := "ytlainmahnfnhkaa", sum := "4abd81c60844a83d33414851f47dc184342d6e83b202ac3c3f2140136b380ce7", func := "loop.example/onecounter/laws.FnExactWorkArea", spec := "fnExactWorkArea", apart := false, narrowed := true }
def FnExactWorkAreaUptoSaid : Prop := fnExactWorkAreaUptoRow.holds Try.pinned (OpenSpec.upto fnExactWorkAreaSpec)

/-- 'laws.FnSumOf', WHERE WHAT IT READS IS OF BULK AT MOST 1048576: true; the input reads as it did. -/
def fnSumOfUptoRow : OpenClaim := { program := "ytlainmahnfnhkaa", sum := "4abd81c60844a83d33414851f47dc184342d6e83b202ac3c3f2140136b380ce7", func := "loop.example/onecounter/laws.FnSumOf", spec := "fnSumOf", apart := false, narrowed := true }
def FnSumOfUptoSaid : Prop := fnSumOfUptoRow.holds Try.pinned (OpenSpec.upto fnSumOfSpec)

/-- 'laws.FnExactWorkBy', WHERE WHAT IT READS IS OF BULK AT MOST 1048576: true; the input reads as it did. -/
def fnExactWorkByUptoRow : OpenClaim := { program := "ytlainmahnfnhkaa", sum := "4abd81c60844a83d33414851f47dc184342d6e83b202ac3c3f2140136b380ce7", func := "loop.example/onecounter/laws.FnExactWorkBy", spec := "fnExactWorkBy", apart := false, narrowed := true }
def FnExactWorkByUptoSaid : Prop := fnExactWorkByUptoRow.holds Try.pinned (OpenSpec.upto fnExactWorkBySpec)

/-- 'laws.FnWorkBy', WHERE WHAT IT READS IS OF BULK AT MOST 1048576: true; the input reads as it did. -/
def fnWorkByUptoRow : OpenClaim := { program := "ytlainmahnfnhkaa", sum := "4abd81c60844a83d33414851f47dc184342d6e83b202ac3c3f2140136b380ce7", func := "loop.example/onecounter/laws.FnWorkBy", spec := "fnWorkBy", apart := false, narrowed := true }
def FnWorkByUptoSaid : Prop := fnWorkByUptoRow.holds Try.pinned (OpenSpec.upto fnWorkBySpec)

/-- 'laws.FnWorkArea', WHERE WHAT IT READS IS OF BULK AT MOST 1048576: true; the input reads as it did. -/
def fnWorkAreaUptoRow : OpenClaim := { program := "ytlainmahnfnhkaa", sum := "4abd81c60844a83d33414851f47dc184342d6e83b202ac3c3f2140136b380ce7", func := "loop.example/onecounter/laws.FnWorkArea", spec := "fnWorkArea", apart := false, narrowed := true }
def FnWorkAreaUptoSaid : Prop := fnWorkAreaUptoRow.holds Try.pinned (OpenSpec.upto fnWorkAreaSpec)

/-- 'laws.FnExactSumOf', WHERE WHAT IT READS IS OF BULK AT MOST 1048576: true; the input reads as it did. -/
def fnExactSumOfUptoRow : OpenClaim := { program := "ytlainmahnfnhkaa", sum := "4abd81c60844a83d33414851f47dc184342d6e83b202ac3c3f2140136b380ce7", func := "loop.example/onecounter/laws.FnExactSumOf", spec := "fnExactSumOf", apart := false, narrowed := true }
def FnExactSumOfUptoSaid : Prop := fnExactSumOfUptoRow.holds Try.pinned (OpenSpec.upto fnExactSumOfSpec)

/-- 'laws.FnExactTimesOf', WHERE WHAT IT READS IS OF BULK AT MOST 1048576: true; the input reads as it did. -/
def fnExactTimesOfUptoRow : OpenClaim := { program := "ytlainmahnfnhkaa", sum := "4abd81c60844a83d33414851f47dc184342d6e83b202ac3c3f2140136b380ce7", func := "loop.example/onecounter/laws.FnExactTimesOf", spec := "fnExactTimesOf", apart := false, narrowed := true }
def FnExactTimesOfUptoSaid : Prop := fnExactTimesOfUptoRow.holds Try.pinned (OpenSpec.upto fnExactTimesOfSpec)

/-- 'laws.FnExactAreaOf', WHERE WHAT IT READS IS OF BULK AT MOST 1048576: true; the input reads as it did. -/
def fnExactAreaOfUptoRow : OpenClaim := { program := "ytlainmahnfnhkaa", sum := "4abd81c60844a83d33414851f47dc184342d6e83b202ac3c3f2140136b380ce7", func := "loop.example/onecounter/laws.FnExactAreaOf", spec := "fnExactAreaOf", apart := false, narrowed := true }
def FnExactAreaOfUptoSaid : Prop := fnExactAreaOfUptoRow.holds Try.pinned (OpenSpec.upto fnExactAreaOfSpec)

/-- 'laws.FnExactWaitingArea', WHERE WHAT IT READS IS OF BULK AT MOST 1048576: true; the input reads as it did. -/
def fnExactWaitingAreaUptoRow : OpenClaim := { program := "ytlainmahnfnhkaa", sum := "4abd81c60844a83d33414851f47dc184342d6e83b202ac3c3f2140136b380ce7", func := "loop.example/onecounter/laws.FnExactWaitingArea", spec := "fnExactWaitingArea", apart := false, narrowed := true }
def FnExactWaitingAreaUptoSaid : Prop := fnExactWaitingAreaUptoRow.holds Try.pinned (OpenSpec.upto fnExactWaitingAreaSpec)

/-- 'laws.FnTimesOf', WHERE WHAT IT READS IS OF BULK AT MOST 1048576: true; the input reads as it did. -/
def fnTimesOfUptoRow : OpenClaim := { program := "ytlainmahnfnhkaa", sum := "4abd81c60844a83d33414851f47dc184342d6e83b202ac3c3f2140136b380ce7", func := "loop.example/onecounter/laws.FnTimesOf", spec := "fnTimesOf", apart := false, narrowed := true }
def FnTimesOfUptoSaid : Prop := fnTimesOfUptoRow.holds Try.pinned (OpenSpec.upto fnTimesOfSpec)

/-- 'laws.FnAreaOf', WHERE WHAT IT READS IS OF BULK AT MOST 1048576: true; the input reads as it did. -/
def fnAreaOfUptoRow : OpenClaim := { program := "ytlainmahnfnhkaa", sum := "4abd81c60844a83d33414851f47dc184342d6e83b202ac3c3f2140136b380ce7", func := "loop.example/onecounter/laws.FnAreaOf", spec := "fnAreaOf", apart := false, narrowed := true }
def FnAreaOfUptoSaid : Prop := fnAreaOfUptoRow.holds Try.pinned (OpenSpec.upto fnAreaOfSpec)

end Rows
end Go.Proofs.Ytlainmahnfnhkaa
