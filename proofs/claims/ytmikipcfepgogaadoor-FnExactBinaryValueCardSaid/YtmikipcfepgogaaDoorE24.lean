/- BinaryValue: what it says; the ways of the reference joined. -/
import Derived.Test.YtmikipcfepgogaaDoorE20
import Derived.Test.YtmikipcfepgogaaDoorE22
import Derived.Test.YtmikipcfepgogaaDoorE23
import Derived.Test.YtmikipcfepgogaaDoorE5
namespace Go.Proofs.YtmikipcfepgogaaDoor
set_option linter.unusedVariables false
set_option linter.unusedSimpArgs false
set_option maxRecDepth 100000
open Go.RowKit

theorem dvF_in (s : ByteArray) : ∀ (f a : Nat) (v : Int) (j : Nat) (r : Int), VB v j → j + f ≤ 12 → dvF s f a v = some r → VB r 12
  | 0, a, v, j, r, hv, hj, h => by
    simp only [dvF, Option.some.injEq] at h
    subst h
    have := hv.le (by omega)
    exact ⟨this.1, by have := this.2; omega⟩
  | f + 1, a, v, j, r, hv, hj, h => by
    rw [dvF] at h
    split at h
    · rename_i hb
      exact dvF_in s f (a + 1) _ (j + 1) r (hv.step hb.1 hb.2) (by omega) h
    · cases h
theorem iot_in (s : ByteArray) : InM (iot s).1 := by
  unfold iot
  split
  · unfold InM; simp
  · rename_i hz
    split
    · unfold InM; simp
    · rename_i v hv
      have h := dvF_in s _ _ 0 0 v VB.zero (by omega) hv
      obtain ⟨h1, h2⟩ := h
      unfold InM
      have h3 : v < 1000000000000 := by simpa using h2
      split <;> (simp only []; omega)
theorem ti_in {v : VVal} (hw : wellB v = true) : InM (tiN v) := by
  unfold tiN
  split
  · rename_i h1
    unfold InM
    unfold wellB at hw
    simp [h1] at hw
    omega
  · split
    · exact iot_in _
    · unfold InM; simp
theorem pwF_zero (a : Int) : ∀ (f : Nat) (n : Int), ¬ (pwF a f n).2 = 0 → (pwF a f n).1 = 0
  | 0, n, h => absurd rfl h
  | f + 1, n, h => by
    rw [pwF] at h ⊢
    split at h
    · rename_i hm
      rw [if_pos hm]
      exact pwF_zero a f _ h
    · rename_i hm
      rw [if_neg hm]
theorem rng_zero {n : Int} (h : ¬ (rng n).2 = 0) : (rng n).1 = 0 := by
  unfold rng at h ⊢
  split at h
  · exact absurd rfl h
  · rename_i hn; rw [if_neg hn]
theorem powR_zero {a b : Int} (h : ¬ (powR a b).2 = 0) : (powR a b).1 = 0 := by
  unfold powR at h ⊢
  repeat' split
  all_goals first | rfl | (exfalso; simp_all; done) | skip
  all_goals simp_all
  exact pwF_zero _ _ _ h
theorem arR_zero {op a b : Int} (h : ¬ (arR op a b).2 = 0) : (arR op a b).1 = 0 := by
  unfold arR at h ⊢
  split
  · rename_i e; rw [if_pos e] at h; exact rng_zero h
  rename_i e1; rw [if_neg e1] at h
  split
  · rename_i e; rw [if_pos e] at h; exact rng_zero h
  rename_i e2; rw [if_neg e2] at h
  split
  · rename_i e; rw [if_pos e] at h
    split
    · rename_i g; rw [if_pos g] at h; exact absurd rfl h
    · rfl
  rename_i e3; rw [if_neg e3] at h
  split
  · rename_i e; rw [if_pos e] at h; exact powR_zero h
  rename_i e4; rw [if_neg e4] at h
  split
  · rfl
  rename_i e5; rw [if_neg e5] at h
  split
  · rename_i e; rw [if_pos e] at h; exact rng_zero h
  rename_i e6; rw [if_neg e6] at h
  exact rng_zero h

def numR (op : Int) (a b : VVal) : VVal × Int :=
  if tiB a && tiB b then
    (if 30 ≤ op then (if holdsK (op - 30) (signI (tiN a) (tiN b)) then (VVal.ofInt (tiN b), 0) else (VVal.zero, -1))
     else (if (arR op (tiN a) (tiN b)).2 = 0 then VVal.ofInt (arR op (tiN a) (tiN b)).1 else VVal.zero, (arR op (tiN a) (tiN b)).2))
  else (VVal.zero, 101)
def txtR (op : Int) (a b : VVal) : VVal × Int :=
  if ttB a && ttB b then
    (if op = 50 then (if ccB (ttT a) (ttT b) then (VVal.ofText (ccT (ttT a) (ttT b)), 0) else (VVal.zero, 302))
     else if holdsK (op - 40) (cmpT (ttT a) (ttT b)) then (VVal.ofText (ttT b), 0) else (VVal.zero, -1))
  else (VVal.zero, 103)
def setR (op : Int) (a b : VVal) : VVal × Int :=
  if tcB a && tcB b then
    (if op = 52 then (VVal.ofSet (bits .or .i64 (tcLo a) (tcLo b)) (bits .or .i64 (tcHi a) (tcHi b)), 0)
     else if op = 53 then (VVal.ofSet (bits .andNot .i64 (tcLo a) (tcLo b)) (bits .andNot .i64 (tcHi a) (tcHi b)), 0)
     else (VVal.ofSet (bits .and .i64 (tcLo a) (tcLo b)) (bits .and .i64 (tcHi a) (tcHi b)), 0))
  else (VVal.zero, 104)
def opNum (op : Int) : Prop := (20 ≤ op ∧ op ≤ 25) ∨ (30 ≤ op ∧ op ≤ 35)
def opTxt (op : Int) : Prop := (40 ≤ op ∧ op ≤ 45) ∨ op = 50
def opSet (op : Int) : Prop := op = 52 ∨ op = 53 ∨ op = 54
def opId (op : Int) : Prop := op = 46 ∨ op = 47
def binR (op : Int) (a b : VVal) : VVal × Int :=
  if op ≤ 35 then numR op a b else if op = 46 ∨ op = 47 then idR op a b else if op ≤ 50 then txtR op a b else setR op a b
/-- Which operators have a text. -/
theorem op_named {op : Int} (h1 : 20 ≤ op) (h2 : op ≤ 54) (h3 : ¬ op = 51) (h : ¬ opT op = ByteArray.empty) : opNum op ∨ opTxt op ∨ opSet op ∨ opId op := by
  unfold opNum opTxt opSet opId
  rcases (show op = 26 ∨ op = 27 ∨ op = 28 ∨ op = 29 ∨ op = 36 ∨ op = 37 ∨ op = 38 ∨ op = 39 ∨ op = 48 ∨ op = 49 ∨ ((20 ≤ op ∧ op ≤ 25) ∨ (30 ≤ op ∧ op ≤ 35)) ∨ ((40 ≤ op ∧ op ≤ 45) ∨ op = 50) ∨ (op = 52 ∨ op = 53 ∨ op = 54) ∨ (op = 46 ∨ op = 47) by omega) with rfl | rfl | rfl | rfl | rfl | rfl | rfl | rfl | rfl | rfl | h | h | h | h
  iterate 10 (exact absurd (by decide +kernel) h)
  · exact .inl h
  · exact .inr (.inl h)
  · exact .inr (.inr (.inl h))
  · exact .inr (.inr (.inr h))

/-- The ways joined. -/
theorem ways_joined : True := trivial
theorem specNumbers_any (op : Int) (a b : VVal) (w : World) (ha : a.Ok) (hb : b.Ok) (ho : opNum op) (xa : InM (tiN a)) (xb : InM (tiN b)) :
    Calls Tryd.prog 57 #[.int .i64 op, a.val, b.val] w fun e w' => e = .returned (.tuple #[(numR op a b).1.val, .int .i64 (numR op a b).2]) ∧ Bel w w' := by
  have o1 : 20 ≤ op ∧ op ≤ 35 := by unfold opNum at ho; omega
  have HA := fun w => specToInteger_any a w ha
  have HB := fun w => specToInteger_any b w hb
  cases h1 : tiB a
  · rw [h1] at HA
    rw [show numR op a b = (VVal.zero, 101) by simp [numR, h1]]
    exact specNum_af a.k a.n a.i a.t a.lo a.hi b.k b.n b.i b.t b.lo b.hi op o1.1 o1.2 (tiN a) (tiN b) (tiB b) HA HB w
  · rw [h1] at HA
    cases h2 : tiB b
    · rw [h2] at HB
      rw [show numR op a b = (VVal.zero, 101) by simp [numR, h2]]
      exact specNum_bf a.k a.n a.i a.t a.lo a.hi b.k b.n b.i b.t b.lo b.hi op o1.1 o1.2 (tiN a) (tiN b) HA HB w
    · rw [h2] at HB
      rcases ho with h30 | h30
      · by_cases hc : (arR op (tiN a) (tiN b)).2 = 0
        · have HC := fun w => specCompute_any op (tiN a) (tiN b) w xa xb h30.1 h30.2
          rw [hc] at HC
          rw [show numR op a b = (VVal.ofInt (arR op (tiN a) (tiN b)).1, 0) by unfold numR; rw [h1, h2, hc]; simp; omega]
          exact specNum_ar_yes a.k a.n a.i a.t a.lo a.hi b.k b.n b.i b.t b.lo b.hi op h30.1 h30.2 (tiN a) (tiN b) HA HB _ HC w
        · rw [show numR op a b = (VVal.zero, (arR op (tiN a) (tiN b)).2) by unfold numR; rw [h1, h2, if_neg hc]; simp; omega]
          exact specNum_ar_no a.k a.n a.i a.t a.lo a.hi b.k b.n b.i b.t b.lo b.hi op h30.1 h30.2 (tiN a) (tiN b) HA HB _ _ (fun w => specCompute_any op (tiN a) (tiN b) w xa xb h30.1 h30.2) hc w
      · cases hk : holdsK (op - 30) (signI (tiN a) (tiN b))
        · rw [show numR op a b = (VVal.zero, -1) by unfold numR; rw [h1, h2, hk]; simp; omega]
          exact specNum_hold_no a.k a.n a.i a.t a.lo a.hi b.k b.n b.i b.t b.lo b.hi op h30.1 h30.2 (tiN a) (tiN b) HA HB (by rw [show op % 10 = op - 30 by omega]; exact hk) w
        · rw [show numR op a b = (VVal.ofInt (tiN b), 0) by unfold numR; rw [h1, h2, hk]; simp; omega]
          exact specNum_hold_yes a.k a.n a.i a.t a.lo a.hi b.k b.n b.i b.t b.lo b.hi op h30.1 h30.2 (tiN a) (tiN b) HA HB (by rw [show op % 10 = op - 30 by omega]; exact hk) w

theorem specTexts_any (op : Int) (a b : VVal) (w : World) (ha : a.Ok) (hb : b.Ok) (ho : opTxt op) :
    Calls Tryd.prog 58 #[.int .i64 op, a.val, b.val] w fun e w' => e = .returned (.tuple #[(txtR op a b).1.val, .int .i64 (txtR op a b).2]) ∧ Bel w w' := by
  have o1 : 40 ≤ op ∧ (op ≤ 45 ∨ op = 50) := by unfold opTxt at ho; omega
  have HA := fun w => specToText_any a w ha
  have HB := fun w => specToText_any b w hb
  cases h1 : ttB a
  · rw [h1] at HA
    rw [show txtR op a b = (VVal.zero, 103) by simp [txtR, h1]]
    exact specTxt_af a.k a.n a.i a.t a.lo a.hi b.k b.n b.i b.t b.lo b.hi op o1.1 o1.2 (ttT a) (ttT b) (ttB b) HA HB w
  · rw [h1] at HA
    cases h2 : ttB b
    · rw [h2] at HB
      rw [show txtR op a b = (VVal.zero, 103) by simp [txtR, h2]]
      exact specTxt_bf a.k a.n a.i a.t a.lo a.hi b.k b.n b.i b.t b.lo b.hi op o1.1 o1.2 (ttT a) (ttT b) HA HB w
    · rw [h2] at HB
      rcases ho with h40 | h50
      · have n50 : ¬ op = 50 := by omega
        cases hk : holdsK (op - 40) (cmpT (ttT a) (ttT b))
        · rw [show txtR op a b = (VVal.zero, -1) by unfold txtR; rw [h1, h2, hk]; simp [n50]]
          exact specTxt_hold_no a.k a.n a.i a.t a.lo a.hi b.k b.n b.i b.t b.lo b.hi op h40.1 h40.2 (ttT a) (ttT b) HA HB _ (fun w => specCompareTexts_any (ttT a) (ttT b) w ha.tt hb.tt) (by rw [show op % 10 = op - 40 by omega]; exact hk) w
        · rw [show txtR op a b = (VVal.ofText (ttT b), 0) by unfold txtR; rw [h1, h2, hk]; simp [n50]]
          exact specTxt_hold_yes a.k a.n a.i a.t a.lo a.hi b.k b.n b.i b.t b.lo b.hi op h40.1 h40.2 (ttT a) (ttT b) HA HB _ (fun w => specCompareTexts_any (ttT a) (ttT b) w ha.tt hb.tt) (by rw [show op % 10 = op - 40 by omega]; exact hk) w
      · subst h50
        have HC := (fun w => specConcat_any (ttT a) (ttT b) w ha.tt hb.tt)
        cases hk : ccB (ttT a) (ttT b)
        · rw [hk] at HC
          rw [show txtR 50 a b = (VVal.zero, 302) by unfold txtR; rw [h1, h2, hk]; simp]
          exact specTxt_cc_no a.k a.n a.i a.t a.lo a.hi b.k b.n b.i b.t b.lo b.hi (ttT a) (ttT b) HA HB _ HC w
        · rw [hk] at HC
          rw [show txtR 50 a b = (VVal.ofText (ccT (ttT a) (ttT b)), 0) by unfold txtR; rw [h1, h2, hk]; simp]
          exact specTxt_cc_yes a.k a.n a.i a.t a.lo a.hi b.k b.n b.i b.t b.lo b.hi (ttT a) (ttT b) HA HB _ HC w

theorem specSets_any (op : Int) (a b : VVal) (w : World) (ha : a.Ok) (hb : b.Ok) (ho : opSet op) :
    Calls Tryd.prog 44 #[.int .i64 op, a.val, b.val] w fun e w' => e = .returned (.tuple #[(setR op a b).1.val, .int .i64 (setR op a b).2]) ∧ Bel w w' := by
  have HA := fun w => specToCset_any a w ha
  have HB := fun w => specToCset_any b w hb
  rcases ho with rfl | rfl | rfl
  · cases h1 : tcB a
    · rw [h1] at HA
      rw [show setR 52 a b = (VVal.zero, 104) by simp [setR, h1]]
      exact specSet_af52 a.k a.n a.i a.t a.lo a.hi b.k b.n b.i b.t b.lo b.hi (tcLo a) (tcHi a) (tcLo b) (tcHi b) (tcB b) HA HB w
    · rw [h1] at HA
      cases h2 : tcB b
      · rw [h2] at HB
        rw [show setR 52 a b = (VVal.zero, 104) by simp [setR, h2]]
        exact specSet_bf52 a.k a.n a.i a.t a.lo a.hi b.k b.n b.i b.t b.lo b.hi (tcLo a) (tcHi a) (tcLo b) (tcHi b) HA HB w
      · rw [h2] at HB
        rw [show setR 52 a b = (VVal.ofSet (bits .or .i64 (tcLo a) (tcLo b)) (bits .or .i64 (tcHi a) (tcHi b)), 0) by unfold setR; rw [h1, h2]; simp]
        exact specSet_52 a.k a.n a.i a.t a.lo a.hi b.k b.n b.i b.t b.lo b.hi (tcLo a) (tcHi a) (tcLo b) (tcHi b) HA HB w
  · cases h1 : tcB a
    · rw [h1] at HA
      rw [show setR 53 a b = (VVal.zero, 104) by simp [setR, h1]]
      exact specSet_af53 a.k a.n a.i a.t a.lo a.hi b.k b.n b.i b.t b.lo b.hi (tcLo a) (tcHi a) (tcLo b) (tcHi b) (tcB b) HA HB w
    · rw [h1] at HA
      cases h2 : tcB b
      · rw [h2] at HB
        rw [show setR 53 a b = (VVal.zero, 104) by simp [setR, h2]]
        exact specSet_bf53 a.k a.n a.i a.t a.lo a.hi b.k b.n b.i b.t b.lo b.hi (tcLo a) (tcHi a) (tcLo b) (tcHi b) HA HB w
      · rw [h2] at HB
        rw [show setR 53 a b = (VVal.ofSet (bits .andNot .i64 (tcLo a) (tcLo b)) (bits .andNot .i64 (tcHi a) (tcHi b)), 0) by unfold setR; rw [h1, h2]; simp]
        exact specSet_53 a.k a.n a.i a.t a.lo a.hi b.k b.n b.i b.t b.lo b.hi (tcLo a) (tcHi a) (tcLo b) (tcHi b) HA HB w
  · cases h1 : tcB a
    · rw [h1] at HA
      rw [show setR 54 a b = (VVal.zero, 104) by simp [setR, h1]]
      exact specSet_af54 a.k a.n a.i a.t a.lo a.hi b.k b.n b.i b.t b.lo b.hi (tcLo a) (tcHi a) (tcLo b) (tcHi b) (tcB b) HA HB w
    · rw [h1] at HA
      cases h2 : tcB b
      · rw [h2] at HB
        rw [show setR 54 a b = (VVal.zero, 104) by simp [setR, h2]]
        exact specSet_bf54 a.k a.n a.i a.t a.lo a.hi b.k b.n b.i b.t b.lo b.hi (tcLo a) (tcHi a) (tcLo b) (tcHi b) HA HB w
      · rw [h2] at HB
        rw [show setR 54 a b = (VVal.ofSet (bits .and .i64 (tcLo a) (tcLo b)) (bits .and .i64 (tcHi a) (tcHi b)), 0) by unfold setR; rw [h1, h2]; simp]
        exact specSet_54 a.k a.n a.i a.t a.lo a.hi b.k b.n b.i b.t b.lo b.hi (tcLo a) (tcHi a) (tcLo b) (tcHi b) HA HB w

end Go.Proofs.YtmikipcfepgogaaDoor
