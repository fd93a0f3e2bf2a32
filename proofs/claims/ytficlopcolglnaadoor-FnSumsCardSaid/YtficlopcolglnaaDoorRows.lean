/-
  NARROWER THAN 'FOR EVERY INPUT', by the rows' own cells (each row's printed sentence says how): FnExactFunctionName: laid · FnExactFunctionNumber: laid · FnExactOperatorText: laid · FnExactOperatorArity: laid · FnExactToText: laid · FnConversions: laid · FnExactToCset: laid · FnExactToInteger: laid · FnExactUnaryValue: laid · FnSums: laid · FnExactBinaryValue: laid · FnOrder: laid.
  DERIVED. THE GIVEN ROWS OF THIS SEAT. 12 by the template 'for every input the law returns true; each argument reads behind the call as it read before'; 0 by the template 'total and deterministic' (their statements: YtficlopcolglnaaDoorTotals.lean).
  GIVEN WITH THE SEED: the statements are not yours to turn. If you find one false, say at which input.
  Laid BY PROGRAM, IN A SANDBOX (cutbox-rows.mjs): the forced cells as the released guide's own fill.sh prints them over the translation f1ff489188c84ed9… (all of the seat's roots in one cut). By AI agents, Wed Nov 11 2026. No macro, syntax, notation, axiom, sorry.
-/
import Derived.Test.YtficlopcolglnaaDoorChecked
import GoSem.Claim
import GoSem.ClaimJoined
import GoSem.ClaimMapViews
import Derived.JoinedTies
import Derived.KernelRfl
namespace Go.Proofs.YtficlopcolglnaaDoor
/- THE CELL 'sum', in the pinned program and in every row, IS THE sha256 OF THE DUMP (.gsa) THAT YtficlopcolglnaaDoorProg.lean LOADS. Nothing in Lean hashes anything: it is a label: what it is worth is what the hold of that sum in a sandbox is worth. -/
noncomputable def Tryd.pinned : Pinned := { name := "ytficlopcolglnaadoor", sum := "f1ff489188c84ed9170fbf68cbabcce847e689fae17b45fc1dbe797902fd10a6", checked := Tryd.checked }
namespace Rows
def none {H : Type} : Left H := { results := [], args := [] }

/- WHAT THE LISTED PACKAGE-LEVEL VARIABLES READ AS WHEN THE CALL BEGINS. Each datum BY PROGRAM (the guide's laid-datum.mjs) off the statement by which the dump's own 'gosem.cut.vars' lays the variable. In a bare row this is a premise. The card (YtficlopcolglnaaDoorCards.lean) ties it to the program's text. -/
def laid_unicode_White_Space {H : Type} : DataW H := .ptr (.agg [.slice [.agg [.lit (.int .u16 9), .lit (.int .u16 13), .lit (.int .u16 1)], .agg [.lit (.int .u16 32), .lit (.int .u16 133), .lit (.int .u16 101)], .agg [.lit (.int .u16 160), .lit (.int .u16 5760), .lit (.int .u16 5600)], .agg [.lit (.int .u16 8192), .lit (.int .u16 8202), .lit (.int .u16 1)], .agg [.lit (.int .u16 8232), .lit (.int .u16 8233), .lit (.int .u16 1)], .agg [.lit (.int .u16 8239), .lit (.int .u16 8287), .lit (.int .u16 48)], .agg [.lit (.int .u16 12288), .lit (.int .u16 12288), .lit (.int .u16 1)]] [], .nil, .lit (.int .i64 2)])
def laid_strings_asciiSpace {H : Type} : DataW H := .agg [.lit (.int .u8 0), .lit (.int .u8 0), .lit (.int .u8 0), .lit (.int .u8 0), .lit (.int .u8 0), .lit (.int .u8 0), .lit (.int .u8 0), .lit (.int .u8 0), .lit (.int .u8 0), .lit (.int .u8 1), .lit (.int .u8 1), .lit (.int .u8 1), .lit (.int .u8 1), .lit (.int .u8 1), .lit (.int .u8 0), .lit (.int .u8 0), .lit (.int .u8 0), .lit (.int .u8 0), .lit (.int .u8 0), .lit (.int .u8 0), .lit (.int .u8 0), .lit (.int .u8 0), .lit (.int .u8 0), .lit (.int .u8 0), .lit (.int .u8 0), .lit (.int .u8 0), .lit (.int .u8 0), .lit (.int .u8 0), .lit (.int .u8 0), .lit (.int .u8 0), .lit (.int .u8 0), .lit (.int .u8 0), .lit (.int .u8 1), .lit (.int .u8 0), .lit (.int .u8 0), .lit (.int .u8 0), .lit (.int .u8 0), .lit (.int .u8 0), .lit (.int .u8 0), .lit (.int .u8 0), .lit (.int .u8 0), .lit (.int .u8 0), .lit (.int .u8 0), .lit (.int .u8 0), .lit (.int .u8 0), .lit (.int .u8 0), .lit (.int .u8 0), .lit (.int .u8 0), .lit (.int .u8 0), .lit (.int .u8 0), .lit (.int .u8 0), .lit (.int .u8 0), .lit (.int .u8 0), .lit (.int .u8 0), .lit (.int .u8 0), .lit (.int .u8 0), .lit (.int .u8 0), .lit (.int .u8 0), .lit (.int .u8 0), .lit (.int .u8 0), .lit (.int .u8 0), .lit (.int .u8 0), .lit (.int .u8 0), .lit (.int .u8 0), .lit (.int .u8 0), .lit (.int .u8 0), .lit (.int .u8 0), .lit (.int .u8 0), .lit (.int .u8 0), .lit (.int .u8 0), .lit (.int .u8 0), .lit (.int .u8 0), .lit (.int .u8 0), .lit (.int .u8 0), .lit (.int .u8 0), .lit (.int .u8 0), .lit (.int .u8 0), .lit (.int .u8 0), .lit (.int .u8 0), .lit (.int .u8 0), .lit (.int .u8 0), .lit (.int .u8 0), .lit (.int .u8 0), .lit (.int .u8 0), .lit (.int .u8 0), .lit (.int .u8 0), .lit (.int .u8 0), .lit (.int .u8 0), .lit (.int .u8 0), .lit (.int .u8 0), .lit (.int .u8 0), .lit (.int .u8 0), .lit (.int .u8 0), .lit (.int .u8 0), .lit (.int .u8 0), .lit (.int .u8 0), .lit (.int .u8 0), .lit (.int .u8 0), .lit (.int .u8 0), .lit (.int .u8 0), .lit (.int .u8 0), .lit (.int .u8 0), .lit (.int .u8 0), .lit (.int .u8 0), .lit (.int .u8 0), .lit (.int .u8 0), .lit (.int .u8 0), .lit (.int .u8 0), .lit (.int .u8 0), .lit (.int .u8 0), .lit (.int .u8 0), .lit (.int .u8 0), .lit (.int .u8 0), .lit (.int .u8 0), .lit (.int .u8 0), .lit (.int .u8 0), .lit (.int .u8 0), .lit (.int .u8 0), .lit (.int .u8 0), .lit (.int .u8 0), .lit (.int .u8 0), .lit (.int .u8 0), .lit (.int .u8 0), .lit (.int .u8 0), .lit (.int .u8 0), .lit (.int .u8 0), .lit (.int .u8 0), .lit (.int .u8 0), .lit (.int .u8 0), .lit (.int .u8 0), .lit (.int .u8 0), .lit (.int .u8 0), .lit (.int .u8 0), .lit (.int .u8 0), .lit (.int .u8 0), .lit (.int .u8 0), .lit (.int .u8 0), .lit (.int .u8 0), .lit (.int .u8 0), .lit (.int .u8 0), .lit (.int .u8 0), .lit (.int .u8 0), .lit (.int .u8 0), .lit (.int .u8 0), .lit (.int .u8 0), .lit (.int .u8 0), .lit (.int .u8 0), .lit (.int .u8 0), .lit (.int .u8 0), .lit (.int .u8 0), .lit (.int .u8 0), .lit (.int .u8 0), .lit (.int .u8 0), .lit (.int .u8 0), .lit (.int .u8 0), .lit (.int .u8 0), .lit (.int .u8 0), .lit (.int .u8 0), .lit (.int .u8 0), .lit (.int .u8 0), .lit (.int .u8 0), .lit (.int .u8 0), .lit (.int .u8 0), .lit (.int .u8 0), .lit (.int .u8 0), .lit (.int .u8 0), .lit (.int .u8 0), .lit (.int .u8 0), .lit (.int .u8 0), .lit (.int .u8 0), .lit (.int .u8 0), .lit (.int .u8 0), .lit (.int .u8 0), .lit (.int .u8 0), .lit (.int .u8 0), .lit (.int .u8 0), .lit (.int .u8 0), .lit (.int .u8 0), .lit (.int .u8 0), .lit (.int .u8 0), .lit (.int .u8 0), .lit (.int .u8 0), .lit (.int .u8 0), .lit (.int .u8 0), .lit (.int .u8 0), .lit (.int .u8 0), .lit (.int .u8 0), .lit (.int .u8 0), .lit (.int .u8 0), .lit (.int .u8 0), .lit (.int .u8 0), .lit (.int .u8 0), .lit (.int .u8 0), .lit (.int .u8 0), .lit (.int .u8 0), .lit (.int .u8 0), .lit (.int .u8 0), .lit (.int .u8 0), .lit (.int .u8 0), .lit (.int .u8 0), .lit (.int .u8 0), .lit (.int .u8 0), .lit (.int .u8 0), .lit (.int .u8 0), .lit (.int .u8 0), .lit (.int .u8 0), .lit (.int .u8 0), .lit (.int .u8 0), .lit (.int .u8 0), .lit (.int .u8 0), .lit (.int .u8 0), .lit (.int .u8 0), .lit (.int .u8 0), .lit (.int .u8 0), .lit (.int .u8 0), .lit (.int .u8 0), .lit (.int .u8 0), .lit (.int .u8 0), .lit (.int .u8 0), .lit (.int .u8 0), .lit (.int .u8 0), .lit (.int .u8 0), .lit (.int .u8 0), .lit (.int .u8 0), .lit (.int .u8 0), .lit (.int .u8 0), .lit (.int .u8 0), .lit (.int .u8 0), .lit (.int .u8 0), .lit (.int .u8 0), .lit (.int .u8 0), .lit (.int .u8 0), .lit (.int .u8 0), .lit (.int .u8 0), .lit (.int .u8 0), .lit (.int .u8 0), .lit (.int .u8 0), .lit (.int .u8 0), .lit (.int .u8 0), .lit (.int .u8 0), .lit (.int .u8 0), .lit (.int .u8 0), .lit (.int .u8 0), .lit (.int .u8 0), .lit (.int .u8 0), .lit (.int .u8 0), .lit (.int .u8 0), .lit (.int .u8 0), .lit (.int .u8 0), .lit (.int .u8 0), .lit (.int .u8 0), .lit (.int .u8 0), .lit (.int .u8 0), .lit (.int .u8 0), .lit (.int .u8 0), .lit (.int .u8 0)]
def laid_math_bits_deBruijn32tab {H : Type} : DataW H := .agg [.lit (.int .u8 0), .lit (.int .u8 1), .lit (.int .u8 28), .lit (.int .u8 2), .lit (.int .u8 29), .lit (.int .u8 14), .lit (.int .u8 24), .lit (.int .u8 3), .lit (.int .u8 30), .lit (.int .u8 22), .lit (.int .u8 20), .lit (.int .u8 15), .lit (.int .u8 25), .lit (.int .u8 17), .lit (.int .u8 4), .lit (.int .u8 8), .lit (.int .u8 31), .lit (.int .u8 27), .lit (.int .u8 13), .lit (.int .u8 23), .lit (.int .u8 21), .lit (.int .u8 19), .lit (.int .u8 16), .lit (.int .u8 7), .lit (.int .u8 26), .lit (.int .u8 12), .lit (.int .u8 18), .lit (.int .u8 6), .lit (.int .u8 11), .lit (.int .u8 5), .lit (.int .u8 10), .lit (.int .u8 9)]
def laid_math_bits_deBruijn64tab {H : Type} : DataW H := .agg [.lit (.int .u8 0), .lit (.int .u8 1), .lit (.int .u8 56), .lit (.int .u8 2), .lit (.int .u8 57), .lit (.int .u8 49), .lit (.int .u8 28), .lit (.int .u8 3), .lit (.int .u8 61), .lit (.int .u8 58), .lit (.int .u8 42), .lit (.int .u8 50), .lit (.int .u8 38), .lit (.int .u8 29), .lit (.int .u8 17), .lit (.int .u8 4), .lit (.int .u8 62), .lit (.int .u8 47), .lit (.int .u8 59), .lit (.int .u8 36), .lit (.int .u8 45), .lit (.int .u8 43), .lit (.int .u8 51), .lit (.int .u8 22), .lit (.int .u8 53), .lit (.int .u8 39), .lit (.int .u8 33), .lit (.int .u8 30), .lit (.int .u8 24), .lit (.int .u8 18), .lit (.int .u8 12), .lit (.int .u8 5), .lit (.int .u8 63), .lit (.int .u8 55), .lit (.int .u8 48), .lit (.int .u8 27), .lit (.int .u8 60), .lit (.int .u8 41), .lit (.int .u8 37), .lit (.int .u8 16), .lit (.int .u8 46), .lit (.int .u8 35), .lit (.int .u8 44), .lit (.int .u8 21), .lit (.int .u8 52), .lit (.int .u8 32), .lit (.int .u8 23), .lit (.int .u8 11), .lit (.int .u8 54), .lit (.int .u8 26), .lit (.int .u8 40), .lit (.int .u8 15), .lit (.int .u8 34), .lit (.int .u8 20), .lit (.int .u8 31), .lit (.int .u8 10), .lit (.int .u8 25), .lit (.int .u8 14), .lit (.int .u8 19), .lit (.int .u8 9), .lit (.int .u8 13), .lit (.int .u8 8), .lit (.int .u8 7), .lit (.int .u8 6)]
def laid_internal_strconv_uint64pow10 {H : Type} : DataW H := .agg [.lit (.int .u64 1), .lit (.int .u64 10), .lit (.int .u64 100), .lit (.int .u64 1000), .lit (.int .u64 10000), .lit (.int .u64 100000), .lit (.int .u64 1000000), .lit (.int .u64 10000000), .lit (.int .u64 100000000), .lit (.int .u64 1000000000), .lit (.int .u64 10000000000), .lit (.int .u64 100000000000), .lit (.int .u64 1000000000000), .lit (.int .u64 10000000000000), .lit (.int .u64 100000000000000), .lit (.int .u64 1000000000000000), .lit (.int .u64 10000000000000000), .lit (.int .u64 100000000000000000), .lit (.int .u64 1000000000000000000), .lit (.int .u64 10000000000000000000)]

/-- 'laws.FnExactFunctionName': WHATEVER THE INPUT: true; the input reads as it did. -/
def fnExactFunctionNameSpec : ChangeSpec := { name := "fnExactFunctionName", fn := fun _ => fun
  | [d] => { results := [.lit (.bool true)], args := [d] }
  | _ => none }
def fnExactFunctionNameRow : OpenClaim := { program := "ytficlopcolglnaadoor", sum := "f1ff489188c84ed9170fbf68cbabcce847e689fae17b45fc1dbe797902fd10a6", func := "loop.example/g03106/laws.FnExactFunctionName", spec := "fnExactFunctionName", unfollowed := true, recurses := true, named := ["strings.asciiSpace", "unicode.White_Space"], apart := false, laid := [("unicode.White_Space", laid_unicode_White_Space), ("strings.asciiSpace", laid_strings_asciiSpace)] }
def FnExactFunctionNameSaid : Prop := fnExactFunctionNameRow.holds Tryd.pinned (OpenSpec.ofChange fnExactFunctionNameSpec)

/-- ITS FALSE NEIGHBOUR: 'it returns false'. Refute it at one input. -/
def fnExactFunctionNameWrong : ChangeSpec := { name := "fnExactFunctionName", fn := fun _ => fun
  | [d] => { results := [.lit (.bool false)], args := [d] }
  | _ => none }
def FnExactFunctionNameWrongFalsely : Prop := fnExactFunctionNameRow.holds Tryd.pinned (OpenSpec.ofChange fnExactFunctionNameWrong)

/-- 'laws.FnExactFunctionNumber': WHATEVER THE INPUT: true; the input reads as it did. -/
def fnExactFunctionNumberSpec : ChangeSpec := { name := "fnExactFunctionNumber", fn := fun _ => fun
  | [d] => { results := [.lit (.bool true)], args := [d] }
  | _ => none }
def fnExactFunctionNumberRow : OpenClaim := { program := "ytficlopcolglnaadoor", sum := "f1ff489188c84ed9170fbf68cbabcce847e689fae17b45fc1dbe797902fd10a6", func := "loop.example/g03106/laws.FnExactFunctionNumber", spec := "fnExactFunctionNumber", unfollowed := true, recurses := true, named := ["strings.asciiSpace", "unicode.White_Space"], apart := false, laid := [("unicode.White_Space", laid_unicode_White_Space), ("strings.asciiSpace", laid_strings_asciiSpace)] }
def FnExactFunctionNumberSaid : Prop := fnExactFunctionNumberRow.holds Tryd.pinned (OpenSpec.ofChange fnExactFunctionNumberSpec)

/-- ITS FALSE NEIGHBOUR: 'it returns false'. Refute it at one input. -/
def fnExactFunctionNumberWrong : ChangeSpec := { name := "fnExactFunctionNumber", fn := fun _ => fun
  | [d] => { results := [.lit (.bool false)], args := [d] }
  | _ => none }
def FnExactFunctionNumberWrongFalsely : Prop := fnExactFunctionNumberRow.holds Tryd.pinned (OpenSpec.ofChange fnExactFunctionNumberWrong)

/-- 'laws.FnExactOperatorText': WHATEVER THE INPUT: true; the input reads as it did. -/
def fnExactOperatorTextSpec : ChangeSpec := { name := "fnExactOperatorText", fn := fun _ => fun
  | [d] => { results := [.lit (.bool true)], args := [d] }
  | _ => none }
def fnExactOperatorTextRow : OpenClaim := { program := "ytficlopcolglnaadoor", sum := "f1ff489188c84ed9170fbf68cbabcce847e689fae17b45fc1dbe797902fd10a6", func := "loop.example/g03106/laws.FnExactOperatorText", spec := "fnExactOperatorText", unfollowed := true, recurses := true, named := ["strings.asciiSpace", "unicode.White_Space"], apart := false, laid := [("unicode.White_Space", laid_unicode_White_Space), ("strings.asciiSpace", laid_strings_asciiSpace)] }
def FnExactOperatorTextSaid : Prop := fnExactOperatorTextRow.holds Tryd.pinned (OpenSpec.ofChange fnExactOperatorTextSpec)

/-- ITS FALSE NEIGHBOUR: 'it returns false'. Refute it at one input. -/
def fnExactOperatorTextWrong : ChangeSpec := { name := "fnExactOperatorText", fn := fun _ => fun
  | [d] => { results := [.lit (.bool false)], args := [d] }
  | _ => none }
def FnExactOperatorTextWrongFalsely : Prop := fnExactOperatorTextRow.holds Tryd.pinned (OpenSpec.ofChange fnExactOperatorTextWrong)

/-- 'laws.FnExactOperatorArity': WHATEVER THE INPUT: true; the input reads as it did. -/
def fnExactOperatorAritySpec : ChangeSpec := { name := "fnExactOperatorArity", fn := fun _ => fun
  | [d] => { results := [.lit (.bool true)], args := [d] }
  | _ => none }
def fnExactOperatorArityRow : OpenClaim := { program := "ytficlopcolglnaadoor", sum := "f1ff489188c84ed9170fbf68cbabcce847e689fae17b45fc1dbe797902fd10a6", func := "loop.example/g03106/laws.FnExactOperatorArity", spec := "fnExactOperatorArity", unfollowed := true, recurses := true, named := ["strings.asciiSpace", "unicode.White_Space"], apart := false, laid := [("unicode.White_Space", laid_unicode_White_Space), ("strings.asciiSpace", laid_strings_asciiSpace)] }
def FnExactOperatorAritySaid : Prop := fnExactOperatorArityRow.holds Tryd.pinned (OpenSpec.ofChange fnExactOperatorAritySpec)

/-- ITS FALSE NEIGHBOUR: 'it returns false'. Refute it at one input. -/
def fnExactOperatorArityWrong : ChangeSpec := { name := "fnExactOperatorArity", fn := fun _ => fun
  | [d] => { results := [.lit (.bool false)], args := [d] }
  | _ => none }
def FnExactOperatorArityWrongFalsely : Prop := fnExactOperatorArityRow.holds Tryd.pinned (OpenSpec.ofChange fnExactOperatorArityWrong)

/-- 'laws.FnExactToText': WHATEVER THE INPUT: true; the input reads as it did. -/
def fnExactToTextSpec : ChangeSpec := { name := "fnExactToText", fn := fun _ => fun
  | [d] => { results := [.lit (.bool true)], args := [d] }
  | _ => none }
def fnExactToTextRow : OpenClaim := { program := "ytficlopcolglnaadoor", sum := "f1ff489188c84ed9170fbf68cbabcce847e689fae17b45fc1dbe797902fd10a6", func := "loop.example/g03106/laws.FnExactToText", spec := "fnExactToText", named := ["internal/strconv.uint64pow10", "math/bits.deBruijn32tab", "math/bits.deBruijn64tab"], apart := false, laid := [("math/bits.deBruijn32tab", laid_math_bits_deBruijn32tab), ("math/bits.deBruijn64tab", laid_math_bits_deBruijn64tab), ("internal/strconv.uint64pow10", laid_internal_strconv_uint64pow10)] }
def FnExactToTextSaid : Prop := fnExactToTextRow.holds Tryd.pinned (OpenSpec.ofChange fnExactToTextSpec)

/-- ITS FALSE NEIGHBOUR: 'it returns false'. Refute it at one input. -/
def fnExactToTextWrong : ChangeSpec := { name := "fnExactToText", fn := fun _ => fun
  | [d] => { results := [.lit (.bool false)], args := [d] }
  | _ => none }
def FnExactToTextWrongFalsely : Prop := fnExactToTextRow.holds Tryd.pinned (OpenSpec.ofChange fnExactToTextWrong)

/-- 'laws.FnConversions': WHATEVER THE INPUT: true; the input reads as it did. -/
def fnConversionsSpec : ChangeSpec := { name := "fnConversions", fn := fun _ => fun
  | [d] => { results := [.lit (.bool true)], args := [d] }
  | _ => none }
def fnConversionsRow : OpenClaim := { program := "ytficlopcolglnaadoor", sum := "f1ff489188c84ed9170fbf68cbabcce847e689fae17b45fc1dbe797902fd10a6", func := "loop.example/g03106/laws.FnConversions", spec := "fnConversions", named := ["internal/strconv.uint64pow10", "math/bits.deBruijn32tab", "math/bits.deBruijn64tab"], apart := false, laid := [("math/bits.deBruijn32tab", laid_math_bits_deBruijn32tab), ("math/bits.deBruijn64tab", laid_math_bits_deBruijn64tab), ("internal/strconv.uint64pow10", laid_internal_strconv_uint64pow10)] }
def FnConversionsSaid : Prop := fnConversionsRow.holds Tryd.pinned (OpenSpec.ofChange fnConversionsSpec)

/-- ITS FALSE NEIGHBOUR: 'it returns false'. Refute it at one input. -/
def fnConversionsWrong : ChangeSpec := { name := "fnConversions", fn := fun _ => fun
  | [d] => { results := [.lit (.bool false)], args := [d] }
  | _ => none }
def FnConversionsWrongFalsely : Prop := fnConversionsRow.holds Tryd.pinned (OpenSpec.ofChange fnConversionsWrong)

/-- 'laws.FnExactToCset': WHATEVER THE INPUT: true; the input reads as it did. -/
def fnExactToCsetSpec : ChangeSpec := { name := "fnExactToCset", fn := fun _ => fun
  | [d] => { results := [.lit (.bool true)], args := [d] }
  | _ => none }
def fnExactToCsetRow : OpenClaim := { program := "ytficlopcolglnaadoor", sum := "f1ff489188c84ed9170fbf68cbabcce847e689fae17b45fc1dbe797902fd10a6", func := "loop.example/g03106/laws.FnExactToCset", spec := "fnExactToCset", named := ["internal/strconv.uint64pow10", "math/bits.deBruijn32tab", "math/bits.deBruijn64tab"], apart := false, laid := [("math/bits.deBruijn32tab", laid_math_bits_deBruijn32tab), ("math/bits.deBruijn64tab", laid_math_bits_deBruijn64tab), ("internal/strconv.uint64pow10", laid_internal_strconv_uint64pow10)] }
def FnExactToCsetSaid : Prop := fnExactToCsetRow.holds Tryd.pinned (OpenSpec.ofChange fnExactToCsetSpec)

/-- ITS FALSE NEIGHBOUR: 'it returns false'. Refute it at one input. -/
def fnExactToCsetWrong : ChangeSpec := { name := "fnExactToCset", fn := fun _ => fun
  | [d] => { results := [.lit (.bool false)], args := [d] }
  | _ => none }
def FnExactToCsetWrongFalsely : Prop := fnExactToCsetRow.holds Tryd.pinned (OpenSpec.ofChange fnExactToCsetWrong)

/-- 'laws.FnExactToInteger': WHATEVER THE INPUT: true; the input reads as it did. -/
def fnExactToIntegerSpec : ChangeSpec := { name := "fnExactToInteger", fn := fun _ => fun
  | [d] => { results := [.lit (.bool true)], args := [d] }
  | _ => none }
def fnExactToIntegerRow : OpenClaim := { program := "ytficlopcolglnaadoor", sum := "f1ff489188c84ed9170fbf68cbabcce847e689fae17b45fc1dbe797902fd10a6", func := "loop.example/g03106/laws.FnExactToInteger", spec := "fnExactToInteger", named := ["internal/strconv.uint64pow10", "math/bits.deBruijn32tab", "math/bits.deBruijn64tab"], apart := false, laid := [("math/bits.deBruijn32tab", laid_math_bits_deBruijn32tab), ("math/bits.deBruijn64tab", laid_math_bits_deBruijn64tab), ("internal/strconv.uint64pow10", laid_internal_strconv_uint64pow10)] }
def FnExactToIntegerSaid : Prop := fnExactToIntegerRow.holds Tryd.pinned (OpenSpec.ofChange fnExactToIntegerSpec)

/-- ITS FALSE NEIGHBOUR: 'it returns false'. Refute it at one input. -/
def fnExactToIntegerWrong : ChangeSpec := { name := "fnExactToInteger", fn := fun _ => fun
  | [d] => { results := [.lit (.bool false)], args := [d] }
  | _ => none }
def FnExactToIntegerWrongFalsely : Prop := fnExactToIntegerRow.holds Tryd.pinned (OpenSpec.ofChange fnExactToIntegerWrong)

/-- 'laws.FnExactUnaryValue': WHATEVER THE INPUT: true; the input reads as it did. -/
def fnExactUnaryValueSpec : ChangeSpec := { name := "fnExactUnaryValue", fn := fun _ => fun
  | [d1, d2] => { results := [.lit (.bool true)], args := [d1, d2] }
  | _ => none }
def fnExactUnaryValueRow : OpenClaim := { program := "ytficlopcolglnaadoor", sum := "f1ff489188c84ed9170fbf68cbabcce847e689fae17b45fc1dbe797902fd10a6", func := "loop.example/g03106/laws.FnExactUnaryValue", spec := "fnExactUnaryValue", named := ["internal/strconv.uint64pow10", "math/bits.deBruijn32tab", "math/bits.deBruijn64tab"], apart := false, laid := [("math/bits.deBruijn32tab", laid_math_bits_deBruijn32tab), ("math/bits.deBruijn64tab", laid_math_bits_deBruijn64tab), ("internal/strconv.uint64pow10", laid_internal_strconv_uint64pow10)] }
def FnExactUnaryValueSaid : Prop := fnExactUnaryValueRow.holds Tryd.pinned (OpenSpec.ofChange fnExactUnaryValueSpec)

/-- ITS FALSE NEIGHBOUR: 'it returns false'. Refute it at one input. -/
def fnExactUnaryValueWrong : ChangeSpec := { name := "fnExactUnaryValue", fn := fun _ => fun
  | [d1, d2] => { results := [.lit (.bool false)], args := [d1, d2] }
  | _ => none }
def FnExactUnaryValueWrongFalsely : Prop := fnExactUnaryValueRow.holds Tryd.pinned (OpenSpec.ofChange fnExactUnaryValueWrong)

/-- 'laws.FnSums': WHATEVER THE INPUT: true; the input reads as it did. -/
def fnSumsSpec : ChangeSpec := { name := "fnSums", fn := fun _ => fun
  | [d] => { results := [.lit (.bool true)], args := [d] }
  | _ => none }
def fnSumsRow : OpenClaim := { program := "ytficlopcolglnaadoor", sum := "f1ff489188c84ed9170fbf68cbabcce847e689fae17b45fc1dbe797902fd10a6", func := "loop.example/g03106/laws.FnSums", spec := "fnSums", inPlace := ["internal/bytealg.abigen_runtime_cmpstring"], unfollowed := true, recurses := true, named := ["strings.asciiSpace", "unicode.White_Space", "internal/strconv.uint64pow10", "math/bits.deBruijn32tab", "math/bits.deBruijn64tab"], apart := false, laid := [("math/bits.deBruijn32tab", laid_math_bits_deBruijn32tab), ("math/bits.deBruijn64tab", laid_math_bits_deBruijn64tab), ("internal/strconv.uint64pow10", laid_internal_strconv_uint64pow10), ("unicode.White_Space", laid_unicode_White_Space), ("strings.asciiSpace", laid_strings_asciiSpace)] }
def FnSumsSaid : Prop := fnSumsRow.holds Tryd.pinned (OpenSpec.ofChange fnSumsSpec)

/-- ITS FALSE NEIGHBOUR: 'it returns false'. Refute it at one input. -/
def fnSumsWrong : ChangeSpec := { name := "fnSums", fn := fun _ => fun
  | [d] => { results := [.lit (.bool false)], args := [d] }
  | _ => none }
def FnSumsWrongFalsely : Prop := fnSumsRow.holds Tryd.pinned (OpenSpec.ofChange fnSumsWrong)

/-- 'laws.FnExactBinaryValue': WHATEVER THE INPUT: true; the input reads as it did. -/
def fnExactBinaryValueSpec : ChangeSpec := { name := "fnExactBinaryValue", fn := fun _ => fun
  | [d1, d2, d3] => { results := [.lit (.bool true)], args := [d1, d2, d3] }
  | _ => none }
def fnExactBinaryValueRow : OpenClaim := { program := "ytficlopcolglnaadoor", sum := "f1ff489188c84ed9170fbf68cbabcce847e689fae17b45fc1dbe797902fd10a6", func := "loop.example/g03106/laws.FnExactBinaryValue", spec := "fnExactBinaryValue", inPlace := ["internal/bytealg.abigen_runtime_cmpstring"], unfollowed := true, recurses := true, named := ["strings.asciiSpace", "unicode.White_Space", "internal/strconv.uint64pow10", "math/bits.deBruijn32tab", "math/bits.deBruijn64tab"], apart := false, laid := [("math/bits.deBruijn32tab", laid_math_bits_deBruijn32tab), ("math/bits.deBruijn64tab", laid_math_bits_deBruijn64tab), ("internal/strconv.uint64pow10", laid_internal_strconv_uint64pow10), ("unicode.White_Space", laid_unicode_White_Space), ("strings.asciiSpace", laid_strings_asciiSpace)] }
def FnExactBinaryValueSaid : Prop := fnExactBinaryValueRow.holds Tryd.pinned (OpenSpec.ofChange fnExactBinaryValueSpec)

/-- ITS FALSE NEIGHBOUR: 'it returns false'. Refute it at one input. -/
def fnExactBinaryValueWrong : ChangeSpec := { name := "fnExactBinaryValue", fn := fun _ => fun
  | [d1, d2, d3] => { results := [.lit (.bool false)], args := [d1, d2, d3] }
  | _ => none }
def FnExactBinaryValueWrongFalsely : Prop := fnExactBinaryValueRow.holds Tryd.pinned (OpenSpec.ofChange fnExactBinaryValueWrong)

/-- 'laws.FnOrder': WHATEVER THE INPUT: true; the input reads as it did. -/
def fnOrderSpec : ChangeSpec := { name := "fnOrder", fn := fun _ => fun
  | [d] => { results := [.lit (.bool true)], args := [d] }
  | _ => none }
def fnOrderRow : OpenClaim := { program := "ytficlopcolglnaadoor", sum := "f1ff489188c84ed9170fbf68cbabcce847e689fae17b45fc1dbe797902fd10a6", func := "loop.example/g03106/laws.FnOrder", spec := "fnOrder", inPlace := ["internal/bytealg.abigen_runtime_cmpstring"], unfollowed := true, recurses := true, named := ["strings.asciiSpace", "unicode.White_Space", "internal/strconv.uint64pow10", "math/bits.deBruijn32tab", "math/bits.deBruijn64tab"], apart := false, laid := [("math/bits.deBruijn32tab", laid_math_bits_deBruijn32tab), ("math/bits.deBruijn64tab", laid_math_bits_deBruijn64tab), ("internal/strconv.uint64pow10", laid_internal_strconv_uint64pow10), ("unicode.White_Space", laid_unicode_White_Space), ("strings.asciiSpace", laid_strings_asciiSpace)] }
def FnOrderSaid : Prop := fnOrderRow.holds Tryd.pinned (OpenSpec.ofChange fnOrderSpec)

/-- ITS FALSE NEIGHBOUR: 'it returns false'. Refute it at one input. -/
def fnOrderWrong : ChangeSpec := { name := "fnOrder", fn := fun _ => fun
  | [d] => { results := [.lit (.bool false)], args := [d] }
  | _ => none }
def FnOrderWrongFalsely : Prop := fnOrderRow.holds Tryd.pinned (OpenSpec.ofChange fnOrderWrong)

/- THE SECOND FORM. 'bulk': how many values and letters a reading holds, each counted each time it is reached (what is shared counts as often as it is met; a slice's spare places count too). A statement '..UptoSaid' is the law's where the arguments, and the package variables that the reading takes, are together of bulk at most 1048576: NARROWER than '..Said'. Prove '..Said' where nothing that the law and all that it calls make is longer than what came in: it says more and counts as full. Else prove '..UptoSaid'. A law counts once. -/
mutual
def uptoBulk {H : Type} : DataW H → Nat
  | .lit (.string bytes) => bytes.length + 1
  | .lit _ => 1
  | .nil => 1
  | .ptr d => uptoBulk d + 1
  | .slice elems spare => uptoBulkAll elems + uptoBulkAll spare + 1
  | .agg parts => uptoBulkAll parts + 1
  | .iface _ d => uptoBulk d + 1
  | .map entries => uptoBulkEntries entries + 1
  | .held _ => 1
def uptoBulkAll {H : Type} : List (DataW H) → Nat
  | [] => 0
  | d :: r => uptoBulk d + uptoBulkAll r
def uptoBulkEntries {H : Type} : List (Lit × DataW H) → Nat
  | [] => 0
  | x :: r => uptoBulkEntry x + uptoBulkEntries r
def uptoBulkEntry {H : Type} : Lit × DataW H → Nat
  | (.string bytes, d) => bytes.length + uptoBulk d + 1
  | (_, d) => uptoBulk d + 1
 end
def uptoSmall : (H : Type) → List (DataW H) → Bool := fun _ ds => decide (uptoBulkAll ds ≤ 1048576)
def OpenSpec.upto (s : _root_.Go.ChangeSpec) : _root_.Go.OpenSpec := { _root_.Go.OpenSpec.ofChange s with cond := some uptoSmall }

/-- 'laws.FnExactFunctionName', WHERE WHAT IT READS IS OF BULK AT MOST 1048576: true; the input reads as it did. -/
def fnExactFunctionNameUptoRow : OpenClaim := { program := "ytficlopcolglnaadoor", sum := "f1ff489188c84ed9170fbf68cbabcce847e689fae17b45fc1dbe797902fd10a6", func := "loop.example/g03106/laws.FnExactFunctionName", spec := "fnExactFunctionName", unfollowed := true, recurses := true, named := ["strings.asciiSpace", "unicode.White_Space"], apart := false, laid := [("unicode.White_Space", laid_unicode_White_Space), ("strings.asciiSpace", laid_strings_asciiSpace)], narrowed := true }
def FnExactFunctionNameUptoSaid : Prop := fnExactFunctionNameUptoRow.holds Tryd.pinned (OpenSpec.upto fnExactFunctionNameSpec)

/-- 'laws.FnExactFunctionNumber', WHERE WHAT IT READS IS OF BULK AT MOST 1048576: true; the input reads as it did. -/
def fnExactFunctionNumberUptoRow : OpenClaim := { program := "ytficlopcolglnaadoor", sum := "f1ff489188c84ed9170fbf68cbabcce847e689fae17b45fc1dbe797902fd10a6", func := "loop.example/g03106/laws.FnExactFunctionNumber", spec := "fnExactFunctionNumber", unfollowed := true, recurses := true, named := ["strings.asciiSpace", "unicode.White_Space"], apart := false, laid := [("unicode.White_Space", laid_unicode_White_Space), ("strings.asciiSpace", laid_strings_asciiSpace)], narrowed := true }
def FnExactFunctionNumberUptoSaid : Prop := fnExactFunctionNumberUptoRow.holds Tryd.pinned (OpenSpec.upto fnExactFunctionNumberSpec)

/-- 'laws.FnExactOperatorText', WHERE WHAT IT READS IS OF BULK AT MOST 1048576: true; the input reads as it did. -/
def fnExactOperatorTextUptoRow : OpenClaim := { program := "ytficlopcolglnaadoor", sum := "f1ff489188c84ed9170fbf68cbabcce847e689fae17b45fc1dbe797902fd10a6", func := "loop.example/g03106/laws.FnExactOperatorText", spec := "fnExactOperatorText", unfollowed := true, recurses := true, named := ["strings.asciiSpace", "unicode.White_Space"], apart := false, laid := [("unicode.White_Space", laid_unicode_White_Space), ("strings.asciiSpace", laid_strings_asciiSpace)], narrowed := true }
def FnExactOperatorTextUptoSaid : Prop := fnExactOperatorTextUptoRow.holds Tryd.pinned (OpenSpec.upto fnExactOperatorTextSpec)

/-- 'laws.FnExactOperatorArity', WHERE WHAT IT READS IS OF BULK AT MOST 1048576: true; the input reads as it did. -/
def fnExactOperatorArityUptoRow : OpenClaim := { program := "ytficlopcolglnaadoor", sum := "f1ff489188c84ed9170fbf68cbabcce847e689fae17b45fc1dbe797902fd10a6", func := "loop.example/g03106/laws.FnExactOperatorArity", spec := "fnExactOperatorArity", unfollowed := true, recurses := true, named := ["strings.asciiSpace", "unicode.White_Space"], apart := false, laid := [("unicode.White_Space", laid_unicode_White_Space), ("strings.asciiSpace", laid_strings_asciiSpace)], narrowed := true }
def FnExactOperatorArityUptoSaid : Prop := fnExactOperatorArityUptoRow.holds Tryd.pinned (OpenSpec.upto fnExactOperatorAritySpec)

/-- 'laws.FnExactToText', WHERE WHAT IT READS IS OF BULK AT MOST 1048576: true; the input reads as it did. -/
def fnExactToTextUptoRow : OpenClaim := { program := "ytficlopcolglnaadoor", sum := "f1ff489188c84ed9170fbf68cbabcce847e689fae17b45fc1dbe797902fd10a6", func := "loop.example/g03106/laws.FnExactToText", spec := "fnExactToText", named := ["internal/strconv.uint64pow10", "math/bits.deBruijn32tab", "math/bits.deBruijn64tab"], apart := false, laid := [("math/bits.deBruijn32tab", laid_math_bits_deBruijn32tab), ("math/bits.deBruijn64tab", laid_math_bits_deBruijn64tab), ("internal/strconv.uint64pow10", laid_internal_strconv_uint64pow10)], narrowed := true }
def FnExactToTextUptoSaid : Prop := fnExactToTextUptoRow.holds Tryd.pinned (OpenSpec.upto fnExactToTextSpec)

/-- 'laws.FnConversions', WHERE WHAT IT READS IS OF BULK AT MOST 1048576: true; the input reads as it did. -/
def fnConversionsUptoRow : OpenClaim := { program := "ytficlopcolglnaadoor", sum := "f1ff489188c84ed9170fbf68cbabcce847e689fae17b45fc1dbe797902fd10a6", func := "loop.example/g03106/laws.FnConversions", spec := "fnConversions", named := ["internal/strconv.uint64pow10", "math/bits.deBruijn32tab", "math/bits.deBruijn64tab"], apart := false, laid := [("math/bits.deBruijn32tab", laid_math_bits_deBruijn32tab), ("math/bits.deBruijn64tab", laid_math_bits_deBruijn64tab), ("internal/strconv.uint64pow10", laid_internal_strconv_uint64pow10)], narrowed := true }
def FnConversionsUptoSaid : Prop := fnConversionsUptoRow.holds Tryd.pinned (OpenSpec.upto fnConversionsSpec)

/-- 'laws.FnExactToCset', WHERE WHAT IT READS IS OF BULK AT MOST 1048576: true; the input reads as it did. -/
def fnExactToCsetUptoRow : OpenClaim := { program := "ytficlopcolglnaadoor", sum := "f1ff489188c84ed9170fbf68cbabcce847e689fae17b45fc1dbe797902fd10a6", func := "loop.example/g03106/laws.FnExactToCset", spec := "fnExactToCset", named := ["internal/strconv.uint64pow10", "math/bits.deBruijn32tab", "math/bits.deBruijn64tab"], apart := false, laid := [("math/bits.deBruijn32tab", laid_math_bits_deBruijn32tab), ("math/bits.deBruijn64tab", laid_math_bits_deBruijn64tab), ("internal/strconv.uint64pow10", laid_internal_strconv_uint64pow10)], narrowed := true }
def FnExactToCsetUptoSaid : Prop := fnExactToCsetUptoRow.holds Tryd.pinned (OpenSpec.upto fnExactToCsetSpec)

/-- 'laws.FnExactToInteger', WHERE WHAT IT READS IS OF BULK AT MOST 1048576: true; the input reads as it did. -/
def fnExactToIntegerUptoRow : OpenClaim := { program := "ytficlopcolglnaadoor", sum := "f1ff489188c84ed9170fbf68cbabcce847e689fae17b45fc1dbe797902fd10a6", func := "loop.example/g03106/laws.FnExactToInteger", spec := "fnExactToInteger", named := ["internal/strconv.uint64pow10", "math/bits.deBruijn32tab", "math/bits.deBruijn64tab"], apart := false, laid := [("math/bits.deBruijn32tab", laid_math_bits_deBruijn32tab), ("math/bits.deBruijn64tab", laid_math_bits_deBruijn64tab), ("internal/strconv.uint64pow10", laid_internal_strconv_uint64pow10)], narrowed := true }
def FnExactToIntegerUptoSaid : Prop := fnExactToIntegerUptoRow.holds Tryd.pinned (OpenSpec.upto fnExactToIntegerSpec)

/-- 'laws.FnExactUnaryValue', WHERE WHAT IT READS IS OF BULK AT MOST 1048576: true; the input reads as it did. -/
def fnExactUnaryValueUptoRow : OpenClaim := { program := "ytficlopcolglnaadoor", sum := "f1ff489188c84ed9170fbf68cbabcce847e689fae17b45fc1dbe797902fd10a6", func := "loop.example/g03106/laws.FnExactUnaryValue", spec := "fnExactUnaryValue", named := ["internal/strconv.uint64pow10", "math/bits.deBruijn32tab", "math/bits.deBruijn64tab"], apart := false, laid := [("math/bits.deBruijn32tab", laid_math_bits_deBruijn32tab), ("math/bits.deBruijn64tab", laid_math_bits_deBruijn64tab), ("internal/strconv.uint64pow10", laid_internal_strconv_uint64pow10)], narrowed := true }
def FnExactUnaryValueUptoSaid : Prop := fnExactUnaryValueUptoRow.holds Tryd.pinned (OpenSpec.upto fnExactUnaryValueSpec)

/-- 'laws.FnSums', WHERE WHAT IT READS IS OF BULK AT MOST 1048576: true; the input reads as it did. -/
def fnSumsUptoRow : OpenClaim := { program := "ytficlopcolglnaadoor", sum := "f1ff489188c84ed9170fbf68cbabcce847e689fae17b45fc1dbe797902fd10a6", func := "loop.example/g03106/laws.FnSums", spec := "fnSums", inPlace := ["internal/bytealg.abigen_runtime_cmpstring"], unfollowed := true, recurses := true, named := ["strings.asciiSpace", "unicode.White_Space", "internal/strconv.uint64pow10", "math/bits.deBruijn32tab", "math/bits.deBruijn64tab"], apart := false, laid := [("math/bits.deBruijn32tab", laid_math_bits_deBruijn32tab), ("math/bits.deBruijn64tab", laid_math_bits_deBruijn64tab), ("internal/strconv.uint64pow10", laid_internal_strconv_uint64pow10), ("unicode.White_Space", laid_unicode_White_Space), ("strings.asciiSpace", laid_strings_asciiSpace)], narrowed := true }
def FnSumsUptoSaid : Prop := fnSumsUptoRow.holds Tryd.pinned (OpenSpec.upto fnSumsSpec)

/-- 'laws.FnExactBinaryValue', WHERE WHAT IT READS IS OF BULK AT MOST 1048576: true; the input reads as it did. -/
def fnExactBinaryValueUptoRow : OpenClaim := { program := "ytficlopcolglnaadoor", sum := "f1ff489188c84ed9170fbf68cbabcce847e689fae17b45fc1dbe797902fd10a6", func := "loop.example/g03106/laws.FnExactBinaryValue", spec := "fnExactBinaryValue", inPlace := ["internal/bytealg.abigen_runtime_cmpstring"], unfollowed := true, recurses := true, named := ["strings.asciiSpace", "unicode.White_Space", "internal/strconv.uint64pow10", "math/bits.deBruijn32tab", "math/bits.deBruijn64tab"], apart := false, laid := [("math/bits.deBruijn32tab", laid_math_bits_deBruijn32tab), ("math/bits.deBruijn64tab", laid_math_bits_deBruijn64tab), ("internal/strconv.uint64pow10", laid_internal_strconv_uint64pow10), ("unicode.White_Space", laid_unicode_White_Space), ("strings.asciiSpace", laid_strings_asciiSpace)], narrowed := true }
def FnExactBinaryValueUptoSaid : Prop := fnExactBinaryValueUptoRow.holds Tryd.pinned (OpenSpec.upto fnExactBinaryValueSpec)

/-- 'laws.FnOrder', WHERE WHAT IT READS IS OF BULK AT MOST 1048576: true; the input reads as it did. -/
def fnOrderUptoRow : OpenClaim := { program := "ytficlopcolglnaadoor", sum := "f1ff489188c84ed9170fbf68cbabcce847e689fae17b45fc1dbe797902fd10a6", func := "loop.example/g03106/laws.FnOrder", spec := "fnOrder", inPlace := ["internal/bytealg.abigen_runtime_cmpstring"], unfollowed := true, recurses := true, named := ["strings.asciiSpace", "unicode.White_Space", "internal/strconv.uint64pow10", "math/bits.deBruijn32tab", "math/bits.deBruijn64tab"], apart := false, laid := [("math/bits.deBruijn32tab", laid_math_bits_deBruijn32tab), ("math/bits.deBruijn64tab", laid_math_bits_deBruijn64tab), ("internal/strconv.uint64pow10", laid_internal_strconv_uint64pow10), ("unicode.White_Space", laid_unicode_White_Space), ("strings.asciiSpace", laid_strings_asciiSpace)], narrowed := true }
def FnOrderUptoSaid : Prop := fnOrderUptoRow.holds Tryd.pinned (OpenSpec.upto fnOrderSpec)

end Rows
end Go.Proofs.YtficlopcolglnaaDoor
