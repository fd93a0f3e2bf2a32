/-
  NARROWER THAN 'FOR EVERY INPUT', by the rows' own cells (each row's printed sentence says how): FnExactEndingsOf: loops.
  DERIVED. THE GIVEN ROWS OF THIS SEAT. 4 by the template 'for every input the law returns true; each argument reads behind the call as it read before'; 0 by the template 'total and deterministic' (their statements: YtdjbfneniohaaaaTotals.lean).
  GIVEN WITH THE SEED: the statements are not yours to turn. If you find one false, say at which input.
  Laid BY PROGRAM, IN A SANDBOX (cutbox-rows.mjs): the forced cells as the released guide's own fill.sh prints them over the translation 856212de201bb684… (all of the seat's roots in one cut). By AI agents, Wed Nov 11 2026. No macro, syntax, notation, axiom, sorry.
-/
import Derived.Test.YtdjbfneniohaaaaChecked
import GoSem.Claim
import GoSem.ClaimJoined
import GoSem.ClaimMapViews
import Derived.JoinedTies
import Derived.KernelRfl
namespace Go.Proofs.Ytdjbfneniohaaaa
/- THE CELL 'sum', in the pinned program and in every row, IS THE sha256 OF THE DUMP (.gsa) THAT YtdjbfneniohaaaaProg.lean LOADS. Nothing in Lean hashes anything: it is a label: what it is worth is what the hold of that sum in a sandbox is worth. -/
noncomputable def Try.pinned : Pinned := { name := "ytdjbfneniohaaaa", sum := "856212de201bb684550f39b4a728a506e7450252b87ec6f699f0fb3391dd675b", checked := Try.checked }
namespace Rows
def none {H : Type} : Left H := { results := [], args := [] }

/-- 'laws.FnArbno': WHATEVER THE INPUT: true; the input reads as it did. -/
def fnArbnoSpec : ChangeSpec := { name := "fnArbno", fn := fun _ => fun
  | [d] => { results := [.lit (.bool true)], args := [d] }
  | _ => none }
def fnArbnoRow : OpenClaim := { program := "ytdjbfneniohaaaa", sum := "856212de201bb684550f39b4a728a506e7450252b87ec6f699f0fb3391dd675b", func := "loop.example/g03106/laws.FnArbno", spec := "fnArbno", recurses := true, apart := false }
def FnArbnoSaid : Prop := fnArbnoRow.holds Try.pinned (OpenSpec.ofChange fnArbnoSpec)

/-- ITS FALSE NEIGHBOUR: 'it returns false'. Refute it at one input. -/
def fnArbnoWrong : ChangeSpec := { name := "fnArbno", fn := fun _ => fun
  | [d] => { results := [.lit (.bool false)], args := [d] }
  | _ => none }
def FnArbnoWrongFalsely : Prop := fnArbnoRow.holds Try.pinned (OpenSpec.ofChange fnArbnoWrong)

/-- 'laws.FnEndingsWithin': WHATEVER THE INPUT: true; the input reads as it did. -/
def fnEndingsWithinSpec : ChangeSpec := { name := "fnEndingsWithin", fn := fun _ => fun
  | [d] => { results := [.lit (.bool true)], args := [d] }
  | _ => none }
def fnEndingsWithinRow : OpenClaim := { program := "ytdjbfneniohaaaa", sum := "856212de201bb684550f39b4a728a506e7450252b87ec6f699f0fb3391dd675b", func := "loop.example/g03106/laws.FnEndingsWithin", spec := "fnEndingsWithin", recurses := true, apart := false }
def FnEndingsWithinSaid : Prop := fnEndingsWithinRow.holds Try.pinned (OpenSpec.ofChange fnEndingsWithinSpec)

/-- ITS FALSE NEIGHBOUR: 'it returns false'. Refute it at one input. -/
def fnEndingsWithinWrong : ChangeSpec := { name := "fnEndingsWithin", fn := fun _ => fun
  | [d] => { results := [.lit (.bool false)], args := [d] }
  | _ => none }
def FnEndingsWithinWrongFalsely : Prop := fnEndingsWithinRow.holds Try.pinned (OpenSpec.ofChange fnEndingsWithinWrong)

/-- 'laws.FnFirstBytes': WHATEVER THE INPUT: true; the input reads as it did. -/
def fnFirstBytesSpec : ChangeSpec := { name := "fnFirstBytes", fn := fun _ => fun
  | [d] => { results := [.lit (.bool true)], args := [d] }
  | _ => none }
def fnFirstBytesRow : OpenClaim := { program := "ytdjbfneniohaaaa", sum := "856212de201bb684550f39b4a728a506e7450252b87ec6f699f0fb3391dd675b", func := "loop.example/g03106/laws.FnFirstBytes", spec := "fnFirstBytes", recurses := true, apart := false }
def FnFirstBytesSaid : Prop := fnFirstBytesRow.holds Try.pinned (OpenSpec.ofChange fnFirstBytesSpec)

/-- ITS FALSE NEIGHBOUR: 'it returns false'. Refute it at one input. -/
def fnFirstBytesWrong : ChangeSpec := { name := "fnFirstBytes", fn := fun _ => fun
  | [d] => { results := [.lit (.bool false)], args := [d] }
  | _ => none }
def FnFirstBytesWrongFalsely : Prop := fnFirstBytesRow.holds Try.pinned (OpenSpec.ofChange fnFirstBytesWrong)

/-- 'laws.FnExactEndingsOf': WHATEVER THE INPUT: true; the input reads as it did. -/
def fnExactEndingsOfSpec : ChangeSpec := { name := "fnExactEndingsOf", fn := fun _ => fun
  | [d1, d2, d3, d4] => { results := [.lit (.bool true)], args := [d1, d2, d3, d4] }
  | _ => none }
def fnExactEndingsOfRow : OpenClaim := { program := "ytdjbfneniohaaaa", sum := "856212de201bb684550f39b4a728a506e7450252b87ec6f699f0fb3391dd675b", func := "loop.example/g03106/laws.FnExactEndingsOf", spec := "fnExactEndingsOf", recurses := true, loops := true, apart := false }
def FnExactEndingsOfSaid : Prop := fnExactEndingsOfRow.holds Try.pinned (OpenSpec.ofChange fnExactEndingsOfSpec)

/-- ITS FALSE NEIGHBOUR: 'it returns false'. Refute it at one input. -/
def fnExactEndingsOfWrong : ChangeSpec := { name := "fnExactEndingsOf", fn := fun _ => fun
  | [d1, d2, d3, d4] => { results := [.lit (.bool false)], args := [d1, d2, d3, d4] }
  | _ => none }
def FnExactEndingsOfWrongFalsely : Prop := fnExactEndingsOfRow.holds Try.pinned (OpenSpec.ofChange fnExactEndingsOfWrong)

/- THE SECOND FORM. 'bulk': how many values and letters a reading holds, each counted each time it is reached (what is shared counts as often as it is met; a slice's spare places count too). A statement '..UptoSaid' is the law's where the arguments, and the package variables that the reading takes, are together of bulk at most 1048576: NARROWER than '..Said'. Prove '..Said' where nothing that the law and all that it calls make is longer than what came in: it says more and counts as full. Else prove '..UptoSaid'. A law counts once. -/
mutual
def uptoBulk {H : Type} : DataW H → Nat
  | .lit (.string bytes) => bytes.length + 1
  | .lit _ => 1
  | .nil => 1
  | .ptr d => uptoBulk d + 1
  | .slice elems spare => uptoBulkAll elems + uptoBulkAll spare + 1
  | .agg parts => uptoBulkAll parts + 1
  | .iface _ d => uptoBulk d + 1
  | .map entries => uptoBulkEntries entries + 1
  | .held _ => 1
def uptoBulkAll {H : Type} : List (DataW H) → Nat
  | [] => 0
  | d :: r => uptoBulk d + uptoBulkAll r
def uptoBulkEntries {H : Type} : List (Lit × DataW H) → Nat
  | [] => 0
  | x :: r => uptoBulkEntry x + uptoBulkEntries r
def uptoBulkEntry {H : Type} : Lit × DataW H → Nat
  | (.string bytes, d) => bytes.length + uptoBulk d + 1
  | (_, d) => uptoBulk d + 1
 end
def uptoSmall : (H : Type) → List (DataW H) → Bool := fun _ ds => decide (uptoBulkAll ds ≤ 1048576)
def OpenSpec.upto (s : _root_.Go.ChangeSpec) : _root_.Go.OpenSpec := { _root_.Go.OpenSpec.ofChange s with cond := some uptoSmall }

/-- 'laws.FnArbno', WHERE WHAT IT READS IS OF BULK AT MOST 1048576: true; the input reads as it did. -/
def fnArbnoUptoRow : OpenClaim := { program := "ytdjbfneniohaaaa", sum := "856212de201bb684550f39b4a728a506e7450252b87ec6f699f0fb3391dd675b", func := "loop.example/g03106/laws.FnArbno", spec := "fnArbno", recurses := true, apart := false, narrowed := true }
def FnArbnoUptoSaid : Prop := fnArbnoUptoRow.holds Try.pinned (OpenSpec.upto fnArbnoSpec)

/-- 'laws.FnEndingsWithin', WHERE WHAT IT READS IS OF BULK AT MOST 1048576: true; the input reads as it did. -/
def fnEndingsWithinUptoRow : OpenClaim := { program := "ytdjbfneniohaaaa", sum := "856212de201bb684550f39b4a728a506e7450252b87ec6f699f0fb3391dd675b", func := "loop.example/g03106/laws.FnEndingsWithin", spec := "fnEndingsWithin", recurses := true, apart := false, narrowed := true }
def FnEndingsWithinUptoSaid : Prop := fnEndingsWithinUptoRow.holds Try.pinned (OpenSpec.upto fnEndingsWithinSpec)

/-- 'laws.FnFirstBytes', WHERE WHAT IT READS IS OF BULK AT MOST 1048576: true; the input reads as it did. -/
def fnFirstBytesUptoRow : OpenClaim := { program := "ytdjbfneniohaaaa", sum := "856212de201bb684550f39b4a728a506e7450252b87ec6f699f0fb3391dd675b", func := "loop.example/g03106/laws.FnFirstBytes", spec := "fnFirstBytes", recurses := true, apart := false, narrowed := true }
def FnFirstBytesUptoSaid : Prop := fnFirstBytesUptoRow.holds Try.pinned (OpenSpec.upto fnFirstBytesSpec)

/-- 'laws.FnExactEndingsOf', WHERE WHAT IT READS IS OF BULK AT MOST 1048576: true; the input reads as it did. -/
def fnExactEndingsOfUptoRow : OpenClaim := { program := "ytdjbfneniohaaaa", sum := "856212de201bb684550f39b4a728a506e7450252b87ec6f699f0fb3391dd675b", func := "loop.example/g03106/laws.FnExactEndingsOf", spec := "fnExactEndingsOf", recurses := true, loops := true, apart := false, narrowed := true }
def FnExactEndingsOfUptoSaid : Prop := fnExactEndingsOfUptoRow.holds Try.pinned (OpenSpec.upto fnExactEndingsOfSpec)

end Rows
end Go.Proofs.Ytdjbfneniohaaaa
