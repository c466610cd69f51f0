/-
  No cell of these rows narrows 'for every input' (looked for: loops, veiled, ifaces, maps, wideKeys, modest, calm, conditions, laid).
  DERIVED. THE GIVEN ROWS OF THIS SEAT. 12 by the template 'for every input the law returns true; each argument reads behind the call as it read before'; 0 by the template 'total and deterministic' (their statements: YtclodndgieefcaaTotals.lean).
  GIVEN WITH THE SEED: the statements are not yours to turn. If you find one false, say at which input.
  Laid BY PROGRAM, IN A SANDBOX (cutbox-rows.mjs): the forced cells as the released guide's own fill.sh prints them over the translation d53584f240252595… (all of the seat's roots in one cut). By AI agents, Wed Nov 11 2026. No macro, syntax, notation, axiom, sorry.
-/
import Derived.Test.YtclodndgieefcaaChecked
import GoSem.Claim
import GoSem.ClaimJoined
import GoSem.ClaimMapViews
import Derived.JoinedTies
import Derived.KernelRfl
namespace Go.Proofs.Ytclodndgieefcaa
/- THE CELL 'sum', in the pinned program and in every row, IS THE sha256 OF THE DUMP (.gsa) THAT YtclodndgieefcaaProg.lean LOADS. Nothing in Lean hashes anything: it is a label: what it is worth is what the hold of that sum in a sandbox is worth. -/
noncomputable def Try.pinned : Pinned := { name := "ytclodndgieefcaa", sum := "d53584f240252595feee8a575b04f6d0885e3cb03d769dc2aa087a5edf41813a", checked := Try.checked }
namespace Rows
def none {H : Type} : Left H := { results := [], args := [] }

/-- 'laws.FnExactEachOnce': WHATEVER THE INPUT: true; the input reads as it did. -/
def fnExactEachOnceSpec : ChangeSpec := { name := "fnExactEachOnce", fn := fun _ => fun
  | [d1, d2] => { results := [.lit (.bool true)], args := [d1, d2] }
  | _ => none }
def fnExactEachOnceRow : OpenClaim := { program := "ytclodndgieefcaa", sum := "d53584f240252595feee8a575b04f6d0885e3cb03d769dc2aa087a5edf41813a", func := "loop.example/onecounter/laws.FnExactEachOnce", spec := "fnExactEachOnce", apart := false }
def FnExactEachOnceSaid : Prop := fnExactEachOnceRow.holds Try.pinned (OpenSpec.ofChange fnExactEachOnceSpec)

/-- ITS FALSE NEIGHBOUR: 'it returns false'. Refute it at one input. -/
def fnExactEachOnceWrong : ChangeSpec := { name := "fnExactEachOnce", fn := fun _ => fun
  | [d1, d2] => { results := [.lit (.bool false)], args := [d1, d2] }
  | _ => none }
def FnExactEachOnceWrongFalsely : Prop := fnExactEachOnceRow.holds Try.pinned (OpenSpec.ofChange fnExactEachOnceWrong)

/-- 'laws.FnExactTasksOk': WHATEVER THE INPUT: true; the input reads as it did. -/
def fnExactTasksOkSpec : ChangeSpec := { name := "fnExactTasksOk", fn := fun _ => fun
  | [d] => { results := [.lit (.bool true)], args := [d] }
  | _ => none }
def fnExactTasksOkRow : OpenClaim := { program := "ytclodndgieefcaa", sum := "d53584f240252595feee8a575b04f6d0885e3cb03d769dc2aa087a5edf41813a", func := "loop.example/onecounter/laws.FnExactTasksOk", spec := "fnExactTasksOk", apart := false }
def FnExactTasksOkSaid : Prop := fnExactTasksOkRow.holds Try.pinned (OpenSpec.ofChange fnExactTasksOkSpec)

/-- ITS FALSE NEIGHBOUR: 'it returns false'. Refute it at one input. -/
def fnExactTasksOkWrong : ChangeSpec := { name := "fnExactTasksOk", fn := fun _ => fun
  | [d] => { results := [.lit (.bool false)], args := [d] }
  | _ => none }
def FnExactTasksOkWrongFalsely : Prop := fnExactTasksOkRow.holds Try.pinned (OpenSpec.ofChange fnExactTasksOkWrong)

/-- 'laws.FnTasksOk': WHATEVER THE INPUT: true; the input reads as it did. -/
def fnTasksOkSpec : ChangeSpec := { name := "fnTasksOk", fn := fun _ => fun
  | [d] => { results := [.lit (.bool true)], args := [d] }
  | _ => none }
def fnTasksOkRow : OpenClaim := { program := "ytclodndgieefcaa", sum := "d53584f240252595feee8a575b04f6d0885e3cb03d769dc2aa087a5edf41813a", func := "loop.example/onecounter/laws.FnTasksOk", spec := "fnTasksOk", apart := false }
def FnTasksOkSaid : Prop := fnTasksOkRow.holds Try.pinned (OpenSpec.ofChange fnTasksOkSpec)

/-- ITS FALSE NEIGHBOUR: 'it returns false'. Refute it at one input. -/
def fnTasksOkWrong : ChangeSpec := { name := "fnTasksOk", fn := fun _ => fun
  | [d] => { results := [.lit (.bool false)], args := [d] }
  | _ => none }
def FnTasksOkWrongFalsely : Prop := fnTasksOkRow.holds Try.pinned (OpenSpec.ofChange fnTasksOkWrong)

/-- 'laws.FnByRatio': WHATEVER THE INPUT: true; the input reads as it did. -/
def fnByRatioSpec : ChangeSpec := { name := "fnByRatio", fn := fun _ => fun
  | [d] => { results := [.lit (.bool true)], args := [d] }
  | _ => none }
def fnByRatioRow : OpenClaim := { program := "ytclodndgieefcaa", sum := "d53584f240252595feee8a575b04f6d0885e3cb03d769dc2aa087a5edf41813a", func := "loop.example/onecounter/laws.FnByRatio", spec := "fnByRatio", unfollowed := true, recurses := true, apart := false }
def FnByRatioSaid : Prop := fnByRatioRow.holds Try.pinned (OpenSpec.ofChange fnByRatioSpec)

/-- ITS FALSE NEIGHBOUR: 'it returns false'. Refute it at one input. -/
def fnByRatioWrong : ChangeSpec := { name := "fnByRatio", fn := fun _ => fun
  | [d] => { results := [.lit (.bool false)], args := [d] }
  | _ => none }
def FnByRatioWrongFalsely : Prop := fnByRatioRow.holds Try.pinned (OpenSpec.ofChange fnByRatioWrong)

/-- 'laws.FnEachOnce': WHATEVER THE INPUT: true; the input reads as it did. -/
def fnEachOnceSpec : ChangeSpec := { name := "fnEachOnce", fn := fun _ => fun
  | [d] => { results := [.lit (.bool true)], args := [d] }
  | _ => none }
def fnEachOnceRow : OpenClaim := { program := "ytclodndgieefcaa", sum := "d53584f240252595feee8a575b04f6d0885e3cb03d769dc2aa087a5edf41813a", func := "loop.example/onecounter/laws.FnEachOnce", spec := "fnEachOnce", apart := false }
def FnEachOnceSaid : Prop := fnEachOnceRow.holds Try.pinned (OpenSpec.ofChange fnEachOnceSpec)

/-- ITS FALSE NEIGHBOUR: 'it returns false'. Refute it at one input. -/
def fnEachOnceWrong : ChangeSpec := { name := "fnEachOnce", fn := fun _ => fun
  | [d] => { results := [.lit (.bool false)], args := [d] }
  | _ => none }
def FnEachOnceWrongFalsely : Prop := fnEachOnceRow.holds Try.pinned (OpenSpec.ofChange fnEachOnceWrong)

/-- 'laws.FnExactSwappedAt': WHATEVER THE INPUT: true; the input reads as it did. -/
def fnExactSwappedAtSpec : ChangeSpec := { name := "fnExactSwappedAt", fn := fun _ => fun
  | [d1, d2] => { results := [.lit (.bool true)], args := [d1, d2] }
  | _ => none }
def fnExactSwappedAtRow : OpenClaim := { program := "ytclodndgieefcaa", sum := "d53584f240252595feee8a575b04f6d0885e3cb03d769dc2aa087a5edf41813a", func := "loop.example/onecounter/laws.FnExactSwappedAt", spec := "fnExactSwappedAt", apart := false }
def FnExactSwappedAtSaid : Prop := fnExactSwappedAtRow.holds Try.pinned (OpenSpec.ofChange fnExactSwappedAtSpec)

/-- ITS FALSE NEIGHBOUR: 'it returns false'. Refute it at one input. -/
def fnExactSwappedAtWrong : ChangeSpec := { name := "fnExactSwappedAt", fn := fun _ => fun
  | [d1, d2] => { results := [.lit (.bool false)], args := [d1, d2] }
  | _ => none }
def FnExactSwappedAtWrongFalsely : Prop := fnExactSwappedAtRow.holds Try.pinned (OpenSpec.ofChange fnExactSwappedAtWrong)

/-- 'laws.FnSwappedAt': WHATEVER THE INPUT: true; the input reads as it did. -/
def fnSwappedAtSpec : ChangeSpec := { name := "fnSwappedAt", fn := fun _ => fun
  | [d] => { results := [.lit (.bool true)], args := [d] }
  | _ => none }
def fnSwappedAtRow : OpenClaim := { program := "ytclodndgieefcaa", sum := "d53584f240252595feee8a575b04f6d0885e3cb03d769dc2aa087a5edf41813a", func := "loop.example/onecounter/laws.FnSwappedAt", spec := "fnSwappedAt", apart := false }
def FnSwappedAtSaid : Prop := fnSwappedAtRow.holds Try.pinned (OpenSpec.ofChange fnSwappedAtSpec)

/-- ITS FALSE NEIGHBOUR: 'it returns false'. Refute it at one input. -/
def fnSwappedAtWrong : ChangeSpec := { name := "fnSwappedAt", fn := fun _ => fun
  | [d] => { results := [.lit (.bool false)], args := [d] }
  | _ => none }
def FnSwappedAtWrongFalsely : Prop := fnSwappedAtRow.holds Try.pinned (OpenSpec.ofChange fnSwappedAtWrong)

/-- 'laws.FnExactWeightedSum': WHATEVER THE INPUT: true; the input reads as it did. -/
def fnExactWeightedSumSpec : ChangeSpec := { name := "fnExactWeightedSum", fn := fun _ => fun
  | [d1, d2] => { results := [.lit (.bool true)], args := [d1, d2] }
  | _ => none }
def fnExactWeightedSumRow : OpenClaim := { program := "ytclodndgieefcaa", sum := "d53584f240252595feee8a575b04f6d0885e3cb03d769dc2aa087a5edf41813a", func := "loop.example/onecounter/laws.FnExactWeightedSum", spec := "fnExactWeightedSum", apart := false }
def FnExactWeightedSumSaid : Prop := fnExactWeightedSumRow.holds Try.pinned (OpenSpec.ofChange fnExactWeightedSumSpec)

/-- ITS FALSE NEIGHBOUR: 'it returns false'. Refute it at one input. -/
def fnExactWeightedSumWrong : ChangeSpec := { name := "fnExactWeightedSum", fn := fun _ => fun
  | [d1, d2] => { results := [.lit (.bool false)], args := [d1, d2] }
  | _ => none }
def FnExactWeightedSumWrongFalsely : Prop := fnExactWeightedSumRow.holds Try.pinned (OpenSpec.ofChange fnExactWeightedSumWrong)

/-- 'laws.FnExactLeastWeighted': WHATEVER THE INPUT: true; the input reads as it did. -/
def fnExactLeastWeightedSpec : ChangeSpec := { name := "fnExactLeastWeighted", fn := fun _ => fun
  | [d] => { results := [.lit (.bool true)], args := [d] }
  | _ => none }
def fnExactLeastWeightedRow : OpenClaim := { program := "ytclodndgieefcaa", sum := "d53584f240252595feee8a575b04f6d0885e3cb03d769dc2aa087a5edf41813a", func := "loop.example/onecounter/laws.FnExactLeastWeighted", spec := "fnExactLeastWeighted", unfollowed := true, recurses := true, apart := false }
def FnExactLeastWeightedSaid : Prop := fnExactLeastWeightedRow.holds Try.pinned (OpenSpec.ofChange fnExactLeastWeightedSpec)

/-- ITS FALSE NEIGHBOUR: 'it returns false'. Refute it at one input. -/
def fnExactLeastWeightedWrong : ChangeSpec := { name := "fnExactLeastWeighted", fn := fun _ => fun
  | [d] => { results := [.lit (.bool false)], args := [d] }
  | _ => none }
def FnExactLeastWeightedWrongFalsely : Prop := fnExactLeastWeightedRow.holds Try.pinned (OpenSpec.ofChange fnExactLeastWeightedWrong)

/-- 'laws.FnLeastWeighted': WHATEVER THE INPUT: true; the input reads as it did. -/
def fnLeastWeightedSpec : ChangeSpec := { name := "fnLeastWeighted", fn := fun _ => fun
  | [d] => { results := [.lit (.bool true)], args := [d] }
  | _ => none }
def fnLeastWeightedRow : OpenClaim := { program := "ytclodndgieefcaa", sum := "d53584f240252595feee8a575b04f6d0885e3cb03d769dc2aa087a5edf41813a", func := "loop.example/onecounter/laws.FnLeastWeighted", spec := "fnLeastWeighted", unfollowed := true, recurses := true, apart := false }
def FnLeastWeightedSaid : Prop := fnLeastWeightedRow.holds Try.pinned (OpenSpec.ofChange fnLeastWeightedSpec)

/-- ITS FALSE NEIGHBOUR: 'it returns false'. Refute it at one input. -/
def fnLeastWeightedWrong : ChangeSpec := { name := "fnLeastWeighted", fn := fun _ => fun
  | [d] => { results := [.lit (.bool false)], args := [d] }
  | _ => none }
def FnLeastWeightedWrongFalsely : Prop := fnLeastWeightedRow.holds Try.pinned (OpenSpec.ofChange fnLeastWeightedWrong)

/-- 'laws.FnWeightedSum': WHATEVER THE INPUT: true; the input reads as it did. -/
def fnWeightedSumSpec : ChangeSpec := { name := "fnWeightedSum", fn := fun _ => fun
  | [d] => { results := [.lit (.bool true)], args := [d] }
  | _ => none }
def fnWeightedSumRow : OpenClaim := { program := "ytclodndgieefcaa", sum := "d53584f240252595feee8a575b04f6d0885e3cb03d769dc2aa087a5edf41813a", func := "loop.example/onecounter/laws.FnWeightedSum", spec := "fnWeightedSum", unfollowed := true, recurses := true, apart := false }
def FnWeightedSumSaid : Prop := fnWeightedSumRow.holds Try.pinned (OpenSpec.ofChange fnWeightedSumSpec)

/-- ITS FALSE NEIGHBOUR: 'it returns false'. Refute it at one input. -/
def fnWeightedSumWrong : ChangeSpec := { name := "fnWeightedSum", fn := fun _ => fun
  | [d] => { results := [.lit (.bool false)], args := [d] }
  | _ => none }
def FnWeightedSumWrongFalsely : Prop := fnWeightedSumRow.holds Try.pinned (OpenSpec.ofChange fnWeightedSumWrong)

/-- 'laws.FnExactByRatio': WHATEVER THE INPUT: true; the input reads as it did. -/
def fnExactByRatioSpec : ChangeSpec := { name := "fnExactByRatio", fn := fun _ => fun
  | [d] => { results := [.lit (.bool true)], args := [d] }
  | _ => none }
def fnExactByRatioRow : OpenClaim := { program := "ytclodndgieefcaa", sum := "d53584f240252595feee8a575b04f6d0885e3cb03d769dc2aa087a5edf41813a", func := "loop.example/onecounter/laws.FnExactByRatio", spec := "fnExactByRatio", unfollowed := true, recurses := true, apart := false }
def FnExactByRatioSaid : Prop := fnExactByRatioRow.holds Try.pinned (OpenSpec.ofChange fnExactByRatioSpec)

/-- ITS FALSE NEIGHBOUR: 'it returns false'. Refute it at one input. -/
def fnExactByRatioWrong : ChangeSpec := { name := "fnExactByRatio", fn := fun _ => fun
  | [d] => { results := [.lit (.bool false)], args := [d] }
  | _ => none }
def FnExactByRatioWrongFalsely : Prop := fnExactByRatioRow.holds Try.pinned (OpenSpec.ofChange fnExactByRatioWrong)

/- THE SECOND FORM. 'bulk': how many values and letters a reading holds, each counted each time it is reached (what is shared counts as often as it is met; a slice's spare places count too). A statement '..UptoSaid' is the law's where the arguments, and the package variables that the reading takes, are together of bulk at most 1048576: NARROWER than '..Said'. Prove '..Said' where nothing that the law and all that it calls make is longer than what came in: it says more and counts as full. Else prove '..UptoSaid'. A law counts once. -/
mutual
def uptoBulk {H : Type} : DataW H → Nat
  | .lit (.string bytes) => bytes.length + 1
  | .lit _ => 1
  | .nil => 1
  | .ptr d => uptoBulk d + 1
  | .slice elems spare => uptoBulkAll elems + uptoBulkAll spare + 1
  | .agg parts => uptoBulkAll parts + 1
  | .iface _ d => uptoBulk d + 1
  | .map entries => uptoBulkEntries entries + 1
  | .held _ => 1
def uptoBulkAll {H : Type} : List (DataW H) → Nat
  | [] => 0
  | d :: r => uptoBulk d + uptoBulkAll r
def uptoBulkEntries {H : Type} : List (Lit × DataW H) → Nat
  | [] => 0
  | x :: r => uptoBulkEntry x + uptoBulkEntries r
def uptoBulkEntry {H : Type} : Lit × DataW H → Nat
  | (.string bytes, d) => bytes.length + uptoBulk d + 1
  | (_, d) => uptoBulk d + 1
 end
def uptoSmall : (H : Type) → List (DataW H) → Bool := fun _ ds => decide (uptoBulkAll ds ≤ 1048576)
def OpenSpec.upto (s : _root_.Go.ChangeSpec) : _root_.Go.OpenSpec := { _root_.Go.OpenSpec.ofChange s with cond := some uptoSmall }

/-- 'laws.FnExactEachOnce', WHERE WHAT IT READS IS OF BULK AT MOST 1048576: true; the input reads as it did. -/
def fnExactEachOnceUptoRow : OpenClaim := { program := "ytclodndgieefcaa", sum := "d53584f240252595feee8a575b04f6d0885e3cb03d769dc2aa087a5edf41813a", func := "loop.example/onecounter/laws.FnExactEachOnce", spec := "fnExactEachOnce", apart := false, narrowed := true }
def FnExactEachOnceUptoSaid : Prop := fnExactEachOnceUptoRow.holds Try.pinned (OpenSpec.upto fnExactEachOnceSpec)

/-- 'laws.FnExactTasksOk', WHERE WHAT IT READS IS OF BULK AT MOST 1048576: true; the input reads as it did. -/
def fnExactTasksOkUptoRow : OpenClaim := { program := "ytclodndgieefcaa", sum := "d53584f240252595feee8a575b04f6d0885e3cb03d769dc2aa087a5edf41813a", func := "loop.example/onecounter/laws.FnExactTasksOk", spec := "fnExactTasksOk", apart := false, narrowed := true }
def FnExactTasksOkUptoSaid : Prop := fnExactTasksOkUptoRow.holds Try.pinned (OpenSpec.upto fnExactTasksOkSpec)

/-- 'laws.FnTasksOk', WHERE WHAT IT READS IS OF BULK AT MOST 1048576: true; the input reads as it did. -/
def fnTasksOkUptoRow : OpenClaim := { program := "ytclodndgieefcaa", sum := "d53584f240252595feee8a575b04f6d0885e3cb03d769dc2aa087a5edf41813a", func := "loop.example/onecounter/laws.FnTasksOk", spec := "fnTasksOk", apart := false, narrowed := true }
def FnTasksOkUptoSaid : Prop := fnTasksOkUptoRow.holds Try.pinned (OpenSpec.upto fnTasksOkSpec)

/-- 'laws.FnByRatio', WHERE WHAT IT READS IS OF BULK AT MOST 1048576: true; the input reads as it did. -/
def fnByRatioUptoRow : OpenClaim := { program := "ytclodndgieefcaa", sum := "d53584f240252595feee8a575b04f6d0885e3cb03d769dc2aa087a5edf41813a", func := "loop.example/onecounter/laws.FnByRatio", spec := "fnByRatio", unfollowed := true, recurses := true, apart := false, narrowed := true }
def FnByRatioUptoSaid : Prop := fnByRatioUptoRow.holds Try.pinned (OpenSpec.upto fnByRatioSpec)

/-- 'laws.FnEachOnce', WHERE WHAT IT READS IS OF BULK AT MOST 1048576: true; the input reads as it did. -/
def fnEachOnceUptoRow : OpenClaim := { program := "ytclodndgieefcaa", sum := "d53584f240252595feee8a575b04f6d0885e3cb03d769dc2aa087a5edf41813a", func := "loop.example/onecounter/laws.FnEachOnce", spec := "fnEachOnce", apart := false, narrowed := true }
def FnEachOnceUptoSaid : Prop := fnEachOnceUptoRow.holds Try.pinned (OpenSpec.upto fnEachOnceSpec)

/-- 'laws.FnExactSwappedAt', WHERE WHAT IT READS IS OF BULK AT MOST 1048576: true; the input reads as it did. -/
def fnExactSwappedAtUptoRow : OpenClaim := { program := "ytclodndgieefcaa", sum := "d53584f240252595feee8a575b04f6d0885e3cb03d769dc2aa087a5edf41813a", func := "loop.example/onecounter/laws.FnExactSwappedAt", spec := "fnExactSwappedAt", apart := false, narrowed := true }
def FnExactSwappedAtUptoSaid : Prop := fnExactSwappedAtUptoRow.holds Try.pinned (OpenSpec.upto fnExactSwappedAtSpec)

/-- 'laws.FnSwappedAt', WHERE WHAT IT READS IS OF BULK AT MOST 1048576: true; the input reads as it did. -/
def fnSwappedAtUptoRow : OpenClaim := { program := "ytclodndgieefcaa", sum := "d53584f240252595feee8a575b04f6d0885e3cb03d769dc2aa087a5edf41813a", func := "loop.example/onecounter/laws.FnSwappedAt", spec := "fnSwappedAt", apart := false, narrowed := true }
def FnSwappedAtUptoSaid : Prop := fnSwappedAtUptoRow.holds Try.pinned (OpenSpec.upto fnSwappedAtSpec)

/-- 'laws.FnExactWeightedSum', WHERE WHAT IT READS IS OF BULK AT MOST 1048576: true; the input reads as it did. -/
def fnExactWeightedSumUptoRow : OpenClaim := { program := "ytclodndgieefcaa", sum := "d53584f240252595feee8a575b04f6d0885e3cb03d769dc2aa087a5edf41813a", func := "loop.example/onecounter/laws.FnExactWeightedSum", spec := "fnExactWeightedSum", apart := false, narrowed := true }
def FnExactWeightedSumUptoSaid : Prop := fnExactWeightedSumUptoRow.holds Try.pinned (OpenSpec.upto fnExactWeightedSumSpec)

/-- 'laws.FnExactLeastWeighted', WHERE WHAT IT READS IS OF BULK AT MOST 1048576: true; the input reads as it did. -/
def fnExactLeastWeightedUptoRow : OpenClaim := { program := "ytclodndgieefcaa", sum := "d53584f240252595feee8a575b04f6d0885e3cb03d769dc2aa087a5edf41813a", func := "loop.example/onecounter/laws.FnExactLeastWeighted", spec := "fnExactLeastWeighted", unfollowed := true, recurses := true, apart := false, narrowed := true }
def FnExactLeastWeightedUptoSaid : Prop := fnExactLeastWeightedUptoRow.holds Try.pinned (OpenSpec.upto fnExactLeastWeightedSpec)

/-- 'laws.FnLeastWeighted', WHERE WHAT IT READS IS OF BULK AT MOST 1048576: true; the input reads as it did. -/
def fnLeastWeightedUptoRow : OpenClaim := { program := "ytclodndgieefcaa", sum := "d53584f240252595feee8a575b04f6d0885e3cb03d769dc2aa087a5edf41813a", func := "loop.example/onecounter/laws.FnLeastWeighted", spec := "fnLeastWeighted", unfollowed := true, recurses := true, apart := false, narrowed := true }
def FnLeastWeightedUptoSaid : Prop := fnLeastWeightedUptoRow.holds Try.pinned (OpenSpec.upto fnLeastWeightedSpec)

/-- 'laws.FnWeightedSum', WHERE WHAT IT READS IS OF BULK AT MOST 1048576: true; the input reads as it did. -/
def fnWeightedSumUptoRow : OpenClaim := { program := "ytclodndgieefcaa", sum := "d53584f240252595feee8a575b04f6d0885e3cb03d769dc2aa087a5edf41813a", func := "loop.example/onecounter/laws.FnWeightedSum", spec := "fnWeightedSum", unfollowed := true, recurses := true, apart := false, narrowed := true }
def FnWeightedSumUptoSaid : Prop := fnWeightedSumUptoRow.holds Try.pinned (OpenSpec.upto fnWeightedSumSpec)

/-- 'laws.FnExactByRatio', WHERE WHAT IT READS IS OF BULK AT MOST 1048576: true; the input reads as it did. -/
def fnExactByRatioUptoRow : OpenClaim := { program := "ytclodndgieefcaa", sum := "d53584f240252595feee8a575b04f6d0885e3cb03d769dc2aa087a5edf41813a", func := "loop.example/onecounter/laws.FnExactByRatio", spec := "fnExactByRatio", unfollowed := true, recurses := true, apart := false, narrowed := true }
def FnExactByRatioUptoSaid : Prop := fnExactByRatioUptoRow.holds Try.pinned (OpenSpec.upto fnExactByRatioSpec)

end Rows
end Go.Proofs.Ytclodndgieefcaa
