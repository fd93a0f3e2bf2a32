/- The five tables together; the reference's and the program's answers under one name. -/
import Derived.Test.YtmikipcfepgogaaDoorE27
import Derived.Deep.RegionHeld3
namespace Go.Proofs.YtmikipcfepgogaaDoor
set_option linter.unusedVariables false
set_option linter.unusedSimpArgs false
set_option maxRecDepth 100000
open Go.RowKit

def Tabs (w : World) : Prop := Sp w ∧ P10 w
theorem tabs_of {W : World} (h : laidMetH Tryd.prog [("math/bits.deBruijn32tab", Rows.laid_math_bits_deBruijn32tab), ("math/bits.deBruijn64tab", Rows.laid_math_bits_deBruijn64tab), ("internal/strconv.uint64pow10", Rows.laid_internal_strconv_uint64pow10), ("unicode.White_Space", Rows.laid_unicode_White_Space), ("strings.asciiSpace", Rows.laid_strings_asciiSpace)] W) : Tabs W := by
  have h : laidMet Tryd.prog [("math/bits.deBruijn32tab", Rows.laid_math_bits_deBruijn32tab), ("math/bits.deBruijn64tab", Rows.laid_math_bits_deBruijn64tab), ("internal/strconv.uint64pow10", Rows.laid_internal_strconv_uint64pow10), ("unicode.White_Space", Rows.laid_unicode_White_Space), ("strings.asciiSpace", Rows.laid_strings_asciiSpace)] W := h
  refine ⟨?_, ?_⟩
  · exact Lib.tabIs_of_head (g := 0) (t := 77) (e := 5) (n := 256) (rest := []) (by kernel_rfl) (by kernel_rfl) Tryd.underlying77 Tryd.underlying5 (by kernel_rfl) (by kernel_rfl) h.tail.tail.tail.tail
  · exact Lib.tabIs_of_head (g := 3) (t := 151) (e := 121) (n := 20) (rest := [("unicode.White_Space", Rows.laid_unicode_White_Space), ("strings.asciiSpace", Rows.laid_strings_asciiSpace)]) (by kernel_rfl) (by kernel_rfl) Tryd.underlying151 Tryd.underlying121 (by kernel_rfl) (by kernel_rfl) h.tail.tail
theorem Tabs.on {w w' : World} (h : Tabs w) (hb : Bel w w') : Tabs w' := ⟨h.1.on hb, h.2.on hb⟩
theorem toValue_ex (k n i : Int) (t : ByteArray) (lo hi : Int) (w : World) :
    Calls Tryd.prog 18 #[.agg #[.int .i64 k, .int .i64 n, .int .i64 i, .string t, .int .i64 lo, .int .i64 hi]] w fun e w' => e = .returned (.agg #[.int .i64 k, .int .i64 n, .int .i64 i, .string t, .int .i64 lo, .int .i64 hi]) ∧ Bel w w' := toValue_any ⟨k, n, i, t, lo, hi⟩ w
theorem szValue_ex (k n i : Int) (t : ByteArray) (lo hi : Int) (left : Int) (w : World) (h0 : 0 ≤ left) (h1 : left ≤ 1048576) (ht : t.size ≤ maxLen) :
    Calls Tryd.prog 16 #[.agg #[.int .i64 k, .int .i64 n, .int .i64 i, .string t, .int .i64 lo, .int .i64 hi], .int .i64 left] w fun e w' => e = .returned (.int .i64 (szV t left)) ∧ Bel w w' := szValue_any ⟨k, n, i, t, lo, hi⟩ left w h0 h1 ht
theorem eqValue_same (k n i : Int) (t : ByteArray) (lo hi : Int) (w : World) :
    Calls Tryd.prog 20 #[.agg #[.int .i64 k, .int .i64 n, .int .i64 i, .string t, .int .i64 lo, .int .i64 hi], .agg #[.int .i64 k, .int .i64 n, .int .i64 i, .string t, .int .i64 lo, .int .i64 hi]] w fun e w' => e = .returned (.bool true) ∧ Bel w w' := by
  have := eqValue_any ⟨k, n, i, t, lo, hi⟩ ⟨k, n, i, t, lo, hi⟩ w
  rw [VVal.eqB_self] at this
  exact this
end Go.Proofs.YtmikipcfepgogaaDoor
