/-
  NARROWER THAN 'FOR EVERY INPUT', by the rows' own cells (each row's printed sentence says how): FnExactCountCore: loops · FnExactCountPattern: loops · FnExactIsValidPattern: loops · FnExactLeastLength: loops · FnExactMayStop: loops · FnExactFirstBytes: loops · FnExactEndingsOf: loops.
  DERIVED. THE GIVEN ROWS OF THIS SEAT. 12 by the template 'for every input the law returns true; each argument reads behind the call as it read before'; 0 by the template 'total and deterministic' (their statements: YtmikipcfepgogaaTotals.lean).
  GIVEN WITH THE SEED: the statements are not yours to turn. If you find one false, say at which input.
  Laid BY PROGRAM, IN A SANDBOX (cutbox-rows.mjs): the forced cells as the released guide's own fill.sh prints them over the translation fc0d2e67aec6c785… (all of the seat's roots in one cut). By AI agents, Wed Nov 11 2026. No macro, syntax, notation, axiom, sorry.
-/
import Derived.Test.YtmikipcfepgogaaChecked
import GoSem.Claim
import GoSem.ClaimJoined
import GoSem.ClaimMapViews
import Derived.JoinedTies
import Derived.KernelRfl
namespace Go.Proofs.Ytmikipcfepgogaa
/- THE CELL 'sum', in the pinned program and in every row, IS THE sha256 OF THE DUMP (.gsa) THAT YtmikipcfepgogaaProg.lean LOADS. Nothing in Lean hashes anything: it is a label: what it is worth is what the hold of that sum in a sandbox is worth. -/
noncomputable def Try.pinned : Pinned := { name := "ytmikipcfepgogaa", sum := "fc0d2e67aec6c785980ccc4bda64c16deaf0d62232184a44d7478cf0a2279669", checked := Try.checked }
namespace Rows
def none {H : Type} : Left H := { results := [], args := [] }

/-- 'laws.FnExactCountCore': WHATEVER THE INPUT: true; the input reads as it did. -/
def fnExactCountCoreSpec : ChangeSpec := { name := "fnExactCountCore", fn := fun _ => fun
  | [d] => { results := [.lit (.bool true)], args := [d] }
  | _ => none }
def fnExactCountCoreRow : OpenClaim := { program := "ytmikipcfepgogaa", sum := "fc0d2e67aec6c785980ccc4bda64c16deaf0d62232184a44d7478cf0a2279669", func := "loop.example/g03106/laws.FnExactCountCore", spec := "fnExactCountCore", recurses := true, loops := true, apart := false }
def FnExactCountCoreSaid : Prop := fnExactCountCoreRow.holds Try.pinned (OpenSpec.ofChange fnExactCountCoreSpec)

/-- ITS FALSE NEIGHBOUR: 'it returns false'. Refute it at one input. -/
def fnExactCountCoreWrong : ChangeSpec := { name := "fnExactCountCore", fn := fun _ => fun
  | [d] => { results := [.lit (.bool false)], args := [d] }
  | _ => none }
def FnExactCountCoreWrongFalsely : Prop := fnExactCountCoreRow.holds Try.pinned (OpenSpec.ofChange fnExactCountCoreWrong)

/-- 'laws.FnExactCountPattern': WHATEVER THE INPUT: true; the input reads as it did. -/
def fnExactCountPatternSpec : ChangeSpec := { name := "fnExactCountPattern", fn := fun _ => fun
  | [d] => { results := [.lit (.bool true)], args := [d] }
  | _ => none }
def fnExactCountPatternRow : OpenClaim := { program := "ytmikipcfepgogaa", sum := "fc0d2e67aec6c785980ccc4bda64c16deaf0d62232184a44d7478cf0a2279669", func := "loop.example/g03106/laws.FnExactCountPattern", spec := "fnExactCountPattern", recurses := true, loops := true, apart := false }
def FnExactCountPatternSaid : Prop := fnExactCountPatternRow.holds Try.pinned (OpenSpec.ofChange fnExactCountPatternSpec)

/-- ITS FALSE NEIGHBOUR: 'it returns false'. Refute it at one input. -/
def fnExactCountPatternWrong : ChangeSpec := { name := "fnExactCountPattern", fn := fun _ => fun
  | [d] => { results := [.lit (.bool false)], args := [d] }
  | _ => none }
def FnExactCountPatternWrongFalsely : Prop := fnExactCountPatternRow.holds Try.pinned (OpenSpec.ofChange fnExactCountPatternWrong)

/-- 'laws.FnRuns': WHATEVER THE INPUT: true; the input reads as it did. -/
def fnRunsSpec : ChangeSpec := { name := "fnRuns", fn := fun _ => fun
  | [d] => { results := [.lit (.bool true)], args := [d] }
  | _ => none }
def fnRunsRow : OpenClaim := { program := "ytmikipcfepgogaa", sum := "fc0d2e67aec6c785980ccc4bda64c16deaf0d62232184a44d7478cf0a2279669", func := "loop.example/g03106/laws.FnRuns", spec := "fnRuns", apart := false }
def FnRunsSaid : Prop := fnRunsRow.holds Try.pinned (OpenSpec.ofChange fnRunsSpec)

/-- ITS FALSE NEIGHBOUR: 'it returns false'. Refute it at one input. -/
def fnRunsWrong : ChangeSpec := { name := "fnRuns", fn := fun _ => fun
  | [d] => { results := [.lit (.bool false)], args := [d] }
  | _ => none }
def FnRunsWrongFalsely : Prop := fnRunsRow.holds Try.pinned (OpenSpec.ofChange fnRunsWrong)

/-- 'laws.FnExactIsValidPattern': WHATEVER THE INPUT: true; the input reads as it did. -/
def fnExactIsValidPatternSpec : ChangeSpec := { name := "fnExactIsValidPattern", fn := fun _ => fun
  | [d1, d2] => { results := [.lit (.bool true)], args := [d1, d2] }
  | _ => none }
def fnExactIsValidPatternRow : OpenClaim := { program := "ytmikipcfepgogaa", sum := "fc0d2e67aec6c785980ccc4bda64c16deaf0d62232184a44d7478cf0a2279669", func := "loop.example/g03106/laws.FnExactIsValidPattern", spec := "fnExactIsValidPattern", recurses := true, loops := true, apart := false }
def FnExactIsValidPatternSaid : Prop := fnExactIsValidPatternRow.holds Try.pinned (OpenSpec.ofChange fnExactIsValidPatternSpec)

/-- ITS FALSE NEIGHBOUR: 'it returns false'. Refute it at one input. -/
def fnExactIsValidPatternWrong : ChangeSpec := { name := "fnExactIsValidPattern", fn := fun _ => fun
  | [d1, d2] => { results := [.lit (.bool false)], args := [d1, d2] }
  | _ => none }
def FnExactIsValidPatternWrongFalsely : Prop := fnExactIsValidPatternRow.holds Try.pinned (OpenSpec.ofChange fnExactIsValidPatternWrong)

/-- 'laws.FnFound': WHATEVER THE INPUT: true; the input reads as it did. -/
def fnFoundSpec : ChangeSpec := { name := "fnFound", fn := fun _ => fun
  | [d] => { results := [.lit (.bool true)], args := [d] }
  | _ => none }
def fnFoundRow : OpenClaim := { program := "ytmikipcfepgogaa", sum := "fc0d2e67aec6c785980ccc4bda64c16deaf0d62232184a44d7478cf0a2279669", func := "loop.example/g03106/laws.FnFound", spec := "fnFound", inPlace := ["internal/bytealg.IndexByteString", "internal/bytealg.IndexString"], named := ["internal/bytealg.MaxLen"], apart := false }
def FnFoundSaid : Prop := fnFoundRow.holds Try.pinned (OpenSpec.ofChange fnFoundSpec)

/-- ITS FALSE NEIGHBOUR: 'it returns false'. Refute it at one input. -/
def fnFoundWrong : ChangeSpec := { name := "fnFound", fn := fun _ => fun
  | [d] => { results := [.lit (.bool false)], args := [d] }
  | _ => none }
def FnFoundWrongFalsely : Prop := fnFoundRow.holds Try.pinned (OpenSpec.ofChange fnFoundWrong)

/-- 'laws.FnExactLeastLength': WHATEVER THE INPUT: true; the input reads as it did. -/
def fnExactLeastLengthSpec : ChangeSpec := { name := "fnExactLeastLength", fn := fun _ => fun
  | [d] => { results := [.lit (.bool true)], args := [d] }
  | _ => none }
def fnExactLeastLengthRow : OpenClaim := { program := "ytmikipcfepgogaa", sum := "fc0d2e67aec6c785980ccc4bda64c16deaf0d62232184a44d7478cf0a2279669", func := "loop.example/g03106/laws.FnExactLeastLength", spec := "fnExactLeastLength", recurses := true, loops := true, apart := false }
def FnExactLeastLengthSaid : Prop := fnExactLeastLengthRow.holds Try.pinned (OpenSpec.ofChange fnExactLeastLengthSpec)

/-- ITS FALSE NEIGHBOUR: 'it returns false'. Refute it at one input. -/
def fnExactLeastLengthWrong : ChangeSpec := { name := "fnExactLeastLength", fn := fun _ => fun
  | [d] => { results := [.lit (.bool false)], args := [d] }
  | _ => none }
def FnExactLeastLengthWrongFalsely : Prop := fnExactLeastLengthRow.holds Try.pinned (OpenSpec.ofChange fnExactLeastLengthWrong)

/-- 'laws.FnExactMayStop': WHATEVER THE INPUT: true; the input reads as it did. -/
def fnExactMayStopSpec : ChangeSpec := { name := "fnExactMayStop", fn := fun _ => fun
  | [d1, d2] => { results := [.lit (.bool true)], args := [d1, d2] }
  | _ => none }
def fnExactMayStopRow : OpenClaim := { program := "ytmikipcfepgogaa", sum := "fc0d2e67aec6c785980ccc4bda64c16deaf0d62232184a44d7478cf0a2279669", func := "loop.example/g03106/laws.FnExactMayStop", spec := "fnExactMayStop", recurses := true, loops := true, apart := false }
def FnExactMayStopSaid : Prop := fnExactMayStopRow.holds Try.pinned (OpenSpec.ofChange fnExactMayStopSpec)

/-- ITS FALSE NEIGHBOUR: 'it returns false'. Refute it at one input. -/
def fnExactMayStopWrong : ChangeSpec := { name := "fnExactMayStop", fn := fun _ => fun
  | [d1, d2] => { results := [.lit (.bool false)], args := [d1, d2] }
  | _ => none }
def FnExactMayStopWrongFalsely : Prop := fnExactMayStopRow.holds Try.pinned (OpenSpec.ofChange fnExactMayStopWrong)

/-- 'laws.FnExactFirstBytes': WHATEVER THE INPUT: true; the input reads as it did. -/
def fnExactFirstBytesSpec : ChangeSpec := { name := "fnExactFirstBytes", fn := fun _ => fun
  | [d] => { results := [.lit (.bool true)], args := [d] }
  | _ => none }
def fnExactFirstBytesRow : OpenClaim := { program := "ytmikipcfepgogaa", sum := "fc0d2e67aec6c785980ccc4bda64c16deaf0d62232184a44d7478cf0a2279669", func := "loop.example/g03106/laws.FnExactFirstBytes", spec := "fnExactFirstBytes", recurses := true, loops := true, apart := false }
def FnExactFirstBytesSaid : Prop := fnExactFirstBytesRow.holds Try.pinned (OpenSpec.ofChange fnExactFirstBytesSpec)

/-- ITS FALSE NEIGHBOUR: 'it returns false'. Refute it at one input. -/
def fnExactFirstBytesWrong : ChangeSpec := { name := "fnExactFirstBytes", fn := fun _ => fun
  | [d] => { results := [.lit (.bool false)], args := [d] }
  | _ => none }
def FnExactFirstBytesWrongFalsely : Prop := fnExactFirstBytesRow.holds Try.pinned (OpenSpec.ofChange fnExactFirstBytesWrong)

/-- 'laws.FnArbno': WHATEVER THE INPUT: true; the input reads as it did. -/
def fnArbnoSpec : ChangeSpec := { name := "fnArbno", fn := fun _ => fun
  | [d] => { results := [.lit (.bool true)], args := [d] }
  | _ => none }
def fnArbnoRow : OpenClaim := { program := "ytmikipcfepgogaa", sum := "fc0d2e67aec6c785980ccc4bda64c16deaf0d62232184a44d7478cf0a2279669", func := "loop.example/g03106/laws.FnArbno", spec := "fnArbno", recurses := true, apart := false }
def FnArbnoSaid : Prop := fnArbnoRow.holds Try.pinned (OpenSpec.ofChange fnArbnoSpec)

/-- ITS FALSE NEIGHBOUR: 'it returns false'. Refute it at one input. -/
def fnArbnoWrong : ChangeSpec := { name := "fnArbno", fn := fun _ => fun
  | [d] => { results := [.lit (.bool false)], args := [d] }
  | _ => none }
def FnArbnoWrongFalsely : Prop := fnArbnoRow.holds Try.pinned (OpenSpec.ofChange fnArbnoWrong)

/-- 'laws.FnEndingsWithin': WHATEVER THE INPUT: true; the input reads as it did. -/
def fnEndingsWithinSpec : ChangeSpec := { name := "fnEndingsWithin", fn := fun _ => fun
  | [d] => { results := [.lit (.bool true)], args := [d] }
  | _ => none }
def fnEndingsWithinRow : OpenClaim := { program := "ytmikipcfepgogaa", sum := "fc0d2e67aec6c785980ccc4bda64c16deaf0d62232184a44d7478cf0a2279669", func := "loop.example/g03106/laws.FnEndingsWithin", spec := "fnEndingsWithin", recurses := true, apart := false }
def FnEndingsWithinSaid : Prop := fnEndingsWithinRow.holds Try.pinned (OpenSpec.ofChange fnEndingsWithinSpec)

/-- ITS FALSE NEIGHBOUR: 'it returns false'. Refute it at one input. -/
def fnEndingsWithinWrong : ChangeSpec := { name := "fnEndingsWithin", fn := fun _ => fun
  | [d] => { results := [.lit (.bool false)], args := [d] }
  | _ => none }
def FnEndingsWithinWrongFalsely : Prop := fnEndingsWithinRow.holds Try.pinned (OpenSpec.ofChange fnEndingsWithinWrong)

/-- 'laws.FnFirstBytes': WHATEVER THE INPUT: true; the input reads as it did. -/
def fnFirstBytesSpec : ChangeSpec := { name := "fnFirstBytes", fn := fun _ => fun
  | [d] => { results := [.lit (.bool true)], args := [d] }
  | _ => none }
def fnFirstBytesRow : OpenClaim := { program := "ytmikipcfepgogaa", sum := "fc0d2e67aec6c785980ccc4bda64c16deaf0d62232184a44d7478cf0a2279669", func := "loop.example/g03106/laws.FnFirstBytes", spec := "fnFirstBytes", recurses := true, apart := false }
def FnFirstBytesSaid : Prop := fnFirstBytesRow.holds Try.pinned (OpenSpec.ofChange fnFirstBytesSpec)

/-- ITS FALSE NEIGHBOUR: 'it returns false'. Refute it at one input. -/
def fnFirstBytesWrong : ChangeSpec := { name := "fnFirstBytes", fn := fun _ => fun
  | [d] => { results := [.lit (.bool false)], args := [d] }
  | _ => none }
def FnFirstBytesWrongFalsely : Prop := fnFirstBytesRow.holds Try.pinned (OpenSpec.ofChange fnFirstBytesWrong)

/-- 'laws.FnExactEndingsOf': WHATEVER THE INPUT: true; the input reads as it did. -/
def fnExactEndingsOfSpec : ChangeSpec := { name := "fnExactEndingsOf", fn := fun _ => fun
  | [d1, d2, d3, d4] => { results := [.lit (.bool true)], args := [d1, d2, d3, d4] }
  | _ => none }
def fnExactEndingsOfRow : OpenClaim := { program := "ytmikipcfepgogaa", sum := "fc0d2e67aec6c785980ccc4bda64c16deaf0d62232184a44d7478cf0a2279669", func := "loop.example/g03106/laws.FnExactEndingsOf", spec := "fnExactEndingsOf", recurses := true, loops := true, apart := false }
def FnExactEndingsOfSaid : Prop := fnExactEndingsOfRow.holds Try.pinned (OpenSpec.ofChange fnExactEndingsOfSpec)

/-- ITS FALSE NEIGHBOUR: 'it returns false'. Refute it at one input. -/
def fnExactEndingsOfWrong : ChangeSpec := { name := "fnExactEndingsOf", fn := fun _ => fun
  | [d1, d2, d3, d4] => { results := [.lit (.bool false)], args := [d1, d2, d3, d4] }
  | _ => none }
def FnExactEndingsOfWrongFalsely : Prop := fnExactEndingsOfRow.holds Try.pinned (OpenSpec.ofChange fnExactEndingsOfWrong)

/- THE SECOND FORM. 'bulk': how many values and letters a reading holds, each counted each time it is reached (what is shared counts as often as it is met; a slice's spare places count too). A statement '..UptoSaid' is the law's where the arguments, and the package variables that the reading takes, are together of bulk at most 1048576: NARROWER than '..Said'. Prove '..Said' where nothing that the law and all that it calls make is longer than what came in: it says more and counts as full. Else prove '..UptoSaid'. A law counts once. -/
mutual
def uptoBulk {H : Type} : DataW H → Nat
  | .lit (.string bytes) => bytes.length + 1
  | .lit _ => 1
  | .nil => 1
  | .ptr d => uptoBulk d + 1
  | .slice elems spare => uptoBulkAll elems + uptoBulkAll spare + 1
  | .agg parts => uptoBulkAll parts + 1
  | .iface _ d => uptoBulk d + 1
  | .map entries => uptoBulkEntries entries + 1
  | .held _ => 1
def uptoBulkAll {H : Type} : List (DataW H) → Nat
  | [] => 0
  | d :: r => uptoBulk d + uptoBulkAll r
def uptoBulkEntries {H : Type} : List (Lit × DataW H) → Nat
  | [] => 0
  | x :: r => uptoBulkEntry x + uptoBulkEntries r
def uptoBulkEntry {H : Type} : Lit × DataW H → Nat
  | (.string bytes, d) => bytes.length + uptoBulk d + 1
  | (_, d) => uptoBulk d + 1
 end
def uptoSmall : (H : Type) → List (DataW H) → Bool := fun _ ds => decide (uptoBulkAll ds ≤ 1048576)
def OpenSpec.upto (s : _root_.Go.ChangeSpec) : _root_.Go.OpenSpec := { _root_.Go.OpenSpec.ofChange s with cond := some uptoSmall }

/-- 'laws.FnExactCountCore', WHERE WHAT IT READS IS OF BULK AT MOST 1048576: true; the input reads as it did. -/
def fnExactCountCoreUptoRow : OpenClaim := { program := "ytmikipcfepgogaa", sum := "fc0d2e67aec6c785980ccc4bda64c16deaf0d62232184a44d7478cf0a2279669", func := "loop.example/g03106/laws.FnExactCountCore", spec := "fnExactCountCore", recurses := true, loops := true, apart := false, narrowed := true }
def FnExactCountCoreUptoSaid : Prop := fnExactCountCoreUptoRow.holds Try.pinned (OpenSpec.upto fnExactCountCoreSpec)

/-- 'laws.FnExactCountPattern', WHERE WHAT IT READS IS OF BULK AT MOST 1048576: true; the input reads as it did. -/
def fnExactCountPatternUptoRow : OpenClaim := { program := "ytmikipcfepgogaa", sum := "fc0d2e67aec6c785980ccc4bda64c16deaf0d62232184a44d7478cf0a2279669", func := "loop.example/g03106/laws.FnExactCountPattern", spec := "fnExactCountPattern", recurses := true, loops := true, apart := false, narrowed := true }
def FnExactCountPatternUptoSaid : Prop := fnExactCountPatternUptoRow.holds Try.pinned (OpenSpec.upto fnExactCountPatternSpec)

/-- 'laws.FnRuns', WHERE WHAT IT READS IS OF BULK AT MOST 1048576: true; the input reads as it did. -/
def fnRunsUptoRow : OpenClaim := { program := "ytmikipcfepgogaa", sum := "fc0d2e67aec6c785980ccc4bda64c16deaf0d62232184a44d7478cf0a2279669", func := "loop.example/g03106/laws.FnRuns", spec := "fnRuns", apart := false, narrowed := true }
def FnRunsUptoSaid : Prop := fnRunsUptoRow.holds Try.pinned (OpenSpec.upto fnRunsSpec)

/-- 'laws.FnExactIsValidPattern', WHERE WHAT IT READS IS OF BULK AT MOST 1048576: true; the input reads as it did. -/
def fnExactIsValidPatternUptoRow : OpenClaim := { program := "ytmikipcfepgogaa", sum := "fc0d2e67aec6c785980ccc4bda64c16deaf0d62232184a44d7478cf0a2279669", func := "loop.example/g03106/laws.FnExactIsValidPattern", spec := "fnExactIsValidPattern", recurses := true, loops := true, apart := false, narrowed := true }
def FnExactIsValidPatternUptoSaid : Prop := fnExactIsValidPatternUptoRow.holds Try.pinned (OpenSpec.upto fnExactIsValidPatternSpec)

/-- 'laws.FnFound', WHERE WHAT IT READS IS OF BULK AT MOST 1048576: true; the input reads as it did. -/
def fnFoundUptoRow : OpenClaim := { program := "ytmikipcfepgogaa", sum := "fc0d2e67aec6c785980ccc4bda64c16deaf0d62232184a44d7478cf0a2279669", func := "loop.example/g03106/laws.FnFound", spec := "fnFound", inPlace := ["internal/bytealg.IndexByteString", "internal/bytealg.IndexString"], named := ["internal/bytealg.MaxLen"], apart := false, narrowed := true }
def FnFoundUptoSaid : Prop := fnFoundUptoRow.holds Try.pinned (OpenSpec.upto fnFoundSpec)

/-- 'laws.FnExactLeastLength', WHERE WHAT IT READS IS OF BULK AT MOST 1048576: true; the input reads as it did. -/
def fnExactLeastLengthUptoRow : OpenClaim := { program := "ytmikipcfepgogaa", sum := "fc0d2e67aec6c785980ccc4bda64c16deaf0d62232184a44d7478cf0a2279669", func := "loop.example/g03106/laws.FnExactLeastLength", spec := "fnExactLeastLength", recurses := true, loops := true, apart := false, narrowed := true }
def FnExactLeastLengthUptoSaid : Prop := fnExactLeastLengthUptoRow.holds Try.pinned (OpenSpec.upto fnExactLeastLengthSpec)

/-- 'laws.FnExactMayStop', WHERE WHAT IT READS IS OF BULK AT MOST 1048576: true; the input reads as it did. -/
def fnExactMayStopUptoRow : OpenClaim := { program := "ytmikipcfepgogaa", sum := "fc0d2e67aec6c785980ccc4bda64c16deaf0d62232184a44d7478cf0a2279669", func := "loop.example/g03106/laws.FnExactMayStop", spec := "fnExactMayStop", recurses := true, loops := true, apart := false, narrowed := true }
def FnExactMayStopUptoSaid : Prop := fnExactMayStopUptoRow.holds Try.pinned (OpenSpec.upto fnExactMayStopSpec)

/-- 'laws.FnExactFirstBytes', WHERE WHAT IT READS IS OF BULK AT MOST 1048576: true; the input reads as it did. -/
def fnExactFirstBytesUptoRow : OpenClaim := { program := "ytmikipcfepgogaa", sum := "fc0d2e67aec6c785980ccc4bda64c16deaf0d62232184a44d7478cf0a2279669", func := "loop.example/g03106/laws.FnExactFirstBytes", spec := "fnExactFirstBytes", recurses := true, loops := true, apart := false, narrowed := true }
def FnExactFirstBytesUptoSaid : Prop := fnExactFirstBytesUptoRow.holds Try.pinned (OpenSpec.upto fnExactFirstBytesSpec)

/-- 'laws.FnArbno', WHERE WHAT IT READS IS OF BULK AT MOST 1048576: true; the input reads as it did. -/
def fnArbnoUptoRow : OpenClaim := { program := "ytmikipcfepgogaa", sum := "fc0d2e67aec6c785980ccc4bda64c16deaf0d62232184a44d7478cf0a2279669", func := "loop.example/g03106/laws.FnArbno", spec := "fnArbno", recurses := true, apart := false, narrowed := true }
def FnArbnoUptoSaid : Prop := fnArbnoUptoRow.holds Try.pinned (OpenSpec.upto fnArbnoSpec)

/-- 'laws.FnEndingsWithin', WHERE WHAT IT READS IS OF BULK AT MOST 1048576: true; the input reads as it did. -/
def fnEndingsWithinUptoRow : OpenClaim := { program := "ytmikipcfepgogaa", sum := "fc0d2e67aec6c785980ccc4bda64c16deaf0d62232184a44d7478cf0a2279669", func := "loop.example/g03106/laws.FnEndingsWithin", spec := "fnEndingsWithin", recurses := true, apart := false, narrowed := true }
def FnEndingsWithinUptoSaid : Prop := fnEndingsWithinUptoRow.holds Try.pinned (OpenSpec.upto fnEndingsWithinSpec)

/-- 'laws.FnFirstBytes', WHERE WHAT IT READS IS OF BULK AT MOST 1048576: true; the input reads as it did. -/
def fnFirstBytesUptoRow : OpenClaim := { program := "ytmikipcfepgogaa", sum := "fc0d2e67aec6c785980ccc4bda64c16deaf0d62232184a44d7478cf0a2279669", func := "loop.example/g03106/laws.FnFirstBytes", spec := "fnFirstBytes", recurses := true, apart := false, narrowed := true }
def FnFirstBytesUptoSaid : Prop := fnFirstBytesUptoRow.holds Try.pinned (OpenSpec.upto fnFirstBytesSpec)

/-- 'laws.FnExactEndingsOf', WHERE WHAT IT READS IS OF BULK AT MOST 1048576: true; the input reads as it did. -/
def fnExactEndingsOfUptoRow : OpenClaim := { program := "ytmikipcfepgogaa", sum := "fc0d2e67aec6c785980ccc4bda64c16deaf0d62232184a44d7478cf0a2279669", func := "loop.example/g03106/laws.FnExactEndingsOf", spec := "fnExactEndingsOf", recurses := true, loops := true, apart := false, narrowed := true }
def FnExactEndingsOfUptoSaid : Prop := fnExactEndingsOfUptoRow.holds Try.pinned (OpenSpec.upto fnExactEndingsOfSpec)

end Rows
end Go.Proofs.Ytmikipcfepgogaa
