/- BinaryValue of the program: its ways joined. -/
import Derived.Test.YtmikipcfepgogaaDoorE24
import Derived.Test.YtmikipcfepgogaaDoorE21
namespace Go.Proofs.YtmikipcfepgogaaDoor
set_option linter.unusedVariables false
set_option linter.unusedSimpArgs false
set_option maxRecDepth 100000
open Go.RowKit

theorem implNumbers_any (op : Int) (a b : VVal) (w : World) (ha : a.Ok) (hb : b.Ok) (htab : P10 w) (ho : opNum op) (xa : InM (tiN a)) (xb : InM (tiN b)) :
    Calls Tryd.prog 46 #[.int .i64 op, a.val, b.val] w fun e w' => e = .returned (.tuple #[(numR op a b).1.val, .int .i64 (numR op a b).2]) ∧ Bel w w' := by
  have o1 : 20 ≤ op ∧ op ≤ 35 := by unfold opNum at ho; omega
  have HA := fun w h => implToInteger_any a w ha h
  have HB := fun w h => implToInteger_any b w hb h
  cases h1 : tiB a
  · rw [h1] at HA
    rw [show numR op a b = (VVal.zero, 101) by simp [numR, h1]]
    exact implNum_af a.k a.n a.i a.t a.lo a.hi b.k b.n b.i b.t b.lo b.hi op o1.1 o1.2 (tiN a) (tiN b) (tiB b) HA HB w htab
  · rw [h1] at HA
    cases h2 : tiB b
    · rw [h2] at HB
      rw [show numR op a b = (VVal.zero, 101) by simp [numR, h2]]
      exact implNum_bf a.k a.n a.i a.t a.lo a.hi b.k b.n b.i b.t b.lo b.hi op o1.1 o1.2 (tiN a) (tiN b) HA HB w htab
    · rw [h2] at HB
      rcases ho with h30 | h30
      · have HC := fun w => implAr_any op (tiN a) (tiN b) w xa xb h30.1 h30.2
        unfold rCells at HC
        have hE : numR op a b = ((if (arR op (tiN a) (tiN b)).2 = 0 then VVal.ofInt (arR op (tiN a) (tiN b)).1 else VVal.zero), (arR op (tiN a) (tiN b)).2) := by unfold numR; rw [h1, h2]; simp; omega
        have hV : (numR op a b).1.val = .agg #[.int .i64 (c0 (arR op (tiN a) (tiN b)).2), .int .i64 (arR op (tiN a) (tiN b)).1, .int .i64 0, .string ByteArray.empty, .int .i64 0, .int .i64 0] := by
          rw [hE]
          by_cases hc : (arR op (tiN a) (tiN b)).2 = 0
          · simp only [if_pos hc, c0]; rfl
          · simp only [if_neg hc, c0]
            rw [arR_zero hc]
            rfl
        rw [hV, hE]
        exact implNum_ar a.k a.n a.i a.t a.lo a.hi b.k b.n b.i b.t b.lo b.hi op h30.1 h30.2 (tiN a) (tiN b) HA HB _ _ _ _ _ _ _ HC w htab
      · cases hk : holdsK (op - 30) (signI (tiN a) (tiN b))
        · rw [show numR op a b = (VVal.zero, -1) by unfold numR; rw [h1, h2, hk]; simp; omega]
          exact implNum_hold_no a.k a.n a.i a.t a.lo a.hi b.k b.n b.i b.t b.lo b.hi op h30.1 h30.2 (tiN a) (tiN b) HA HB hk w htab
        · rw [show numR op a b = (VVal.ofInt (tiN b), 0) by unfold numR; rw [h1, h2, hk]; simp; omega]
          exact implNum_hold_yes a.k a.n a.i a.t a.lo a.hi b.k b.n b.i b.t b.lo b.hi op h30.1 h30.2 (tiN a) (tiN b) HA HB hk w htab

theorem implTexts_any (op : Int) (a b : VVal) (w : World) (ha : a.Ok) (hb : b.Ok) (htab : P10 w) (ho : opTxt op) (sa : (ttT a).size ≤ 9223372036854775806 / 2) (sb : (ttT b).size ≤ 9223372036854775806 / 2) :
    Calls Tryd.prog 46 #[.int .i64 op, a.val, b.val] w fun e w' => e = .returned (.tuple #[(txtR op a b).1.val, .int .i64 (txtR op a b).2]) ∧ Bel w w' := by
  have o1 : 40 ≤ op ∧ (op ≤ 45 ∨ op = 50) := by unfold opTxt at ho; omega
  have HA := fun w h => implToText_any a w ha h
  have HB := fun w h => implToText_any b w hb h
  cases h1 : ttB a
  · rw [h1] at HA
    rw [show txtR op a b = (VVal.zero, 103) by simp [txtR, h1]]
    exact implTxt_af a.k a.n a.i a.t a.lo a.hi b.k b.n b.i b.t b.lo b.hi op o1.1 o1.2 (ttT a) (ttT b) (ttB b) HA HB w htab
  · rw [h1] at HA
    cases h2 : ttB b
    · rw [h2] at HB
      rw [show txtR op a b = (VVal.zero, 103) by simp [txtR, h2]]
      exact implTxt_bf a.k a.n a.i a.t a.lo a.hi b.k b.n b.i b.t b.lo b.hi op o1.1 o1.2 (ttT a) (ttT b) HA HB w htab
    · rw [h2] at HB
      rcases ho with h40 | h50
      · have n50 : ¬ op = 50 := by omega
        cases hk : holdsK (op - 40) (cmpT (ttT a) (ttT b))
        · rw [show txtR op a b = (VVal.zero, -1) by unfold txtR; rw [h1, h2, hk]; simp [n50]]
          exact implTxt_hold_no a.k a.n a.i a.t a.lo a.hi b.k b.n b.i b.t b.lo b.hi op h40.1 h40.2 (ttT a) (ttT b) HA HB _ (fun w => implCompareTexts_any (ttT a) (ttT b) w) hk w htab
        · rw [show txtR op a b = (VVal.ofText (ttT b), 0) by unfold txtR; rw [h1, h2, hk]; simp [n50]]
          exact implTxt_hold_yes a.k a.n a.i a.t a.lo a.hi b.k b.n b.i b.t b.lo b.hi op h40.1 h40.2 (ttT a) (ttT b) HA HB _ (fun w => implCompareTexts_any (ttT a) (ttT b) w) hk w htab
      · subst h50
        have HC := (fun w => implConcat_any (ttT a) (ttT b) w sa sb)
        cases hk : ccB (ttT a) (ttT b)
        · rw [hk] at HC
          rw [show txtR 50 a b = (VVal.zero, 302) by unfold txtR; rw [h1, h2, hk]; simp]
          exact implTxt_cc_no a.k a.n a.i a.t a.lo a.hi b.k b.n b.i b.t b.lo b.hi (ttT a) (ttT b) HA HB _ HC w htab
        · rw [hk] at HC
          rw [show txtR 50 a b = (VVal.ofText (ccT (ttT a) (ttT b)), 0) by unfold txtR; rw [h1, h2, hk]; simp]
          exact implTxt_cc_yes a.k a.n a.i a.t a.lo a.hi b.k b.n b.i b.t b.lo b.hi (ttT a) (ttT b) HA HB _ HC w htab

theorem implSets_any (op : Int) (a b : VVal) (w : World) (ha : a.Ok) (hb : b.Ok) (htab : P10 w) (ho : opSet op) :
    Calls Tryd.prog 46 #[.int .i64 op, a.val, b.val] w fun e w' => e = .returned (.tuple #[(setR op a b).1.val, .int .i64 (setR op a b).2]) ∧ Bel w w' := by
  have HA := fun w h => implToCset_any a w ha h
  have HB := fun w h => implToCset_any b w hb h
  rcases ho with rfl | rfl | rfl
  · cases h1 : tcB a
    · rw [h1] at HA
      rw [show setR 52 a b = (VVal.zero, 104) by simp [setR, h1]]
      exact implSet_af52 a.k a.n a.i a.t a.lo a.hi b.k b.n b.i b.t b.lo b.hi (tcLo a) (tcHi a) (tcLo b) (tcHi b) (tcB b) HA HB w htab
    · rw [h1] at HA
      cases h2 : tcB b
      · rw [h2] at HB
        rw [show setR 52 a b = (VVal.zero, 104) by simp [setR, h2]]
        exact implSet_bf52 a.k a.n a.i a.t a.lo a.hi b.k b.n b.i b.t b.lo b.hi (tcLo a) (tcHi a) (tcLo b) (tcHi b) HA HB w htab
      · rw [h2] at HB
        rw [show setR 52 a b = (VVal.ofSet (bits .or .i64 (tcLo a) (tcLo b)) (bits .or .i64 (tcHi a) (tcHi b)), 0) by unfold setR; rw [h1, h2]; simp]
        exact implSet_52 a.k a.n a.i a.t a.lo a.hi b.k b.n b.i b.t b.lo b.hi (tcLo a) (tcHi a) (tcLo b) (tcHi b) HA HB w htab
  · cases h1 : tcB a
    · rw [h1] at HA
      rw [show setR 53 a b = (VVal.zero, 104) by simp [setR, h1]]
      exact implSet_af53 a.k a.n a.i a.t a.lo a.hi b.k b.n b.i b.t b.lo b.hi (tcLo a) (tcHi a) (tcLo b) (tcHi b) (tcB b) HA HB w htab
    · rw [h1] at HA
      cases h2 : tcB b
      · rw [h2] at HB
        rw [show setR 53 a b = (VVal.zero, 104) by simp [setR, h2]]
        exact implSet_bf53 a.k a.n a.i a.t a.lo a.hi b.k b.n b.i b.t b.lo b.hi (tcLo a) (tcHi a) (tcLo b) (tcHi b) HA HB w htab
      · rw [h2] at HB
        rw [show setR 53 a b = (VVal.ofSet (bits .andNot .i64 (tcLo a) (tcLo b)) (bits .andNot .i64 (tcHi a) (tcHi b)), 0) by unfold setR; rw [h1, h2]; simp]
        exact implSet_53 a.k a.n a.i a.t a.lo a.hi b.k b.n b.i b.t b.lo b.hi (tcLo a) (tcHi a) (tcLo b) (tcHi b) HA HB w htab
  · cases h1 : tcB a
    · rw [h1] at HA
      rw [show setR 54 a b = (VVal.zero, 104) by simp [setR, h1]]
      exact implSet_af54 a.k a.n a.i a.t a.lo a.hi b.k b.n b.i b.t b.lo b.hi (tcLo a) (tcHi a) (tcLo b) (tcHi b) (tcB b) HA HB w htab
    · rw [h1] at HA
      cases h2 : tcB b
      · rw [h2] at HB
        rw [show setR 54 a b = (VVal.zero, 104) by simp [setR, h2]]
        exact implSet_bf54 a.k a.n a.i a.t a.lo a.hi b.k b.n b.i b.t b.lo b.hi (tcLo a) (tcHi a) (tcLo b) (tcHi b) HA HB w htab
      · rw [h2] at HB
        rw [show setR 54 a b = (VVal.ofSet (bits .and .i64 (tcLo a) (tcLo b)) (bits .and .i64 (tcHi a) (tcHi b)), 0) by unfold setR; rw [h1, h2]; simp]
        exact implSet_54 a.k a.n a.i a.t a.lo a.hi b.k b.n b.i b.t b.lo b.hi (tcLo a) (tcHi a) (tcLo b) (tcHi b) HA HB w htab

end Go.Proofs.YtmikipcfepgogaaDoor
