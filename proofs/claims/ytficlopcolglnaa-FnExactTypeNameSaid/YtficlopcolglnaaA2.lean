/- FaultText and TypeName: maps and slices that the call makes. -/
import Derived.Test.YtficlopcolglnaaAh
namespace Go.Proofs.Ytficlopcolglnaa
set_option linter.unusedVariables false
set_option linter.unusedSimpArgs false
set_option maxRecDepth 100000
open Go.RowKit

theorem zero_string (w : World) : (zeroValue 9).run Try.prog w = .ok (.string ByteArray.empty) w := by kernel_rfl

/-- No entry has the key k. -/
def freshI (k : Int) : List MapEntry → Bool
  | [] => true
  | ⟨.int .i64 a, _, _⟩ :: es => decide (k ≠ a) && freshI k es
  | _ :: _ => false
/-- What the first entry with the key k holds. -/
def lookI (k : Int) : List MapEntry → Option Value
  | [] => some (.string ByteArray.empty)
  | ⟨.int .i64 a, v, _⟩ :: es => if k = a then some v else lookI k es
  | _ :: _ => none
theorem freshI_find (k : Int) : ∀ (es : List MapEntry) (i : Nat), freshI k es = true → Instr.findNow (.int .i64) (.int .i64 k) es i = some none
  | [], i, _ => rfl
  | ⟨.int .i64 a, v, b⟩ :: es, i, h => by
    simp only [freshI, Bool.and_eq_true, decide_eq_true_eq] at h
    have h2 : (k == a) = false := by simp [h.1]
    simp only [Instr.findNow, Instr.sameNow, h2, ↓reduceIte]
    exact freshI_find k es (i + 1) h.2
theorem lookI_find (k : Int) (v : Value) : ∀ (es : List MapEntry) (i : Nat), lookI k es = some v → ∃ r, Instr.findNow (.int .i64) (.int .i64 k) es i = some r ∧ (match r with | some x => x.2 | none => .string ByteArray.empty) = v
  | [], i, h => ⟨none, rfl, by simpa [lookI] using h⟩
  | ⟨.int .i64 a, u, b⟩ :: es, i, h => by
    by_cases e : k = a
    · subst e
      simp only [lookI, ↓reduceIte, Option.some.injEq] at h
      subst h
      exact ⟨some (i, u), by simp [Instr.findNow, Instr.sameNow], rfl⟩
    · simp only [lookI, if_neg e] at h
      obtain ⟨r, h1, h2⟩ := lookI_find k v es (i + 1) h
      have e2 : (k == a) = false := by simp [e]
      exact ⟨r, by simp only [Instr.findNow, Instr.sameNow, e2, ↓reduceIte, h1], h2⟩
theorem ins_is (w0 : World) (es : List MapEntry) (c b : Nat) (k : Int) (v : Value) (hb : b = w0.heap.size) (hnew : freshI k es = true) :
    (Instr.mapUpdate 60 (.map (some b)) (.int .i64 k) v).run Try.prog (w0.alloc (.map es.toArray c)) = .ok () (w0.alloc (.map (es ++ [({ key := .int .i64 k, val := v, born := c } : MapEntry)]).toArray (c + 1))) := by
  have := run_ins_int w0 es.toArray c Try.underlying60 Try.underlying3 b k v hb (freshI_find k _ 0 hnew)
  rw [this]
  simp
theorem look_is (w0 : World) (es : List MapEntry) (c b : Nat) (k : Int) (hb : b = w0.heap.size) (hr : (lookI k es).isSome = true) :
    (Instr.lookup 60 (.map (some b)) (.int .i64 k) false).run Try.prog (w0.alloc (.map es.toArray c)) = .ok ((lookI k es).getD undef) (w0.alloc (.map es.toArray c)) := by
  obtain ⟨v, hv⟩ := Option.isSome_iff_exists.1 hr
  obtain ⟨r, h1, h2⟩ := lookI_find k v es 0 hv
  rw [hv, Option.getD_some, ← h2]
  have := run_look_int w0 es.toArray c Try.underlying60 Try.underlying3 Try.underlying9 b k r hb h1 zero_string
  rw [this]
  cases r <;> rfl
theorem freshI_nil (k : Int) : freshI k [] = true := by simp [freshI]
theorem freshI_cons (k a : Int) (v : Value) (b : Nat) (es : List MapEntry) : freshI k (({ key := .int .i64 a, val := v, born := b } : MapEntry) :: es) = (decide (k ≠ a) && freshI k es) := by simp [freshI]
theorem lookI_nil (k : Int) : lookI k [] = some (.string ByteArray.empty) := by simp [lookI]
theorem lookI_cons (k a : Int) (v : Value) (b : Nat) (es : List MapEntry) : lookI k (({ key := .int .i64 a, val := v, born := b } : MapEntry) :: es) = if k = a then some v else lookI k es := by simp [lookI]
attribute [local go_sem] ins_is look_is freshI_nil freshI_cons lookI_nil lookI_cons

/-- The texts of the faults, by their bytes. -/
def faultText (c : Int) : ByteArray :=
  if c = 101 then ⟨#[105, 110, 116, 101, 103, 101, 114, 32, 101, 120, 112, 101, 99, 116, 101, 100, 32, 111, 114, 32, 111, 117, 116, 32, 111, 102, 32, 114, 97, 110, 103, 101]⟩ else
  if c = 103 then ⟨#[115, 116, 114, 105, 110, 103, 32, 101, 120, 112, 101, 99, 116, 101, 100]⟩ else
  if c = 104 then ⟨#[99, 115, 101, 116, 32, 101, 120, 112, 101, 99, 116, 101, 100]⟩ else
  if c = 106 then ⟨#[112, 114, 111, 99, 101, 100, 117, 114, 101, 32, 111, 114, 32, 105, 110, 116, 101, 103, 101, 114, 32, 101, 120, 112, 101, 99, 116, 101, 100]⟩ else
  if c = 107 then ⟨#[114, 101, 99, 111, 114, 100, 32, 101, 120, 112, 101, 99, 116, 101, 100]⟩ else
  if c = 108 then ⟨#[108, 105, 115, 116, 32, 101, 120, 112, 101, 99, 116, 101, 100]⟩ else
  if c = 111 then ⟨#[118, 97, 114, 105, 97, 98, 108, 101, 32, 101, 120, 112, 101, 99, 116, 101, 100]⟩ else
  if c = 114 then ⟨#[115, 116, 114, 117, 99, 116, 117, 114, 101, 32, 101, 120, 112, 101, 99, 116, 101, 100]⟩ else
  if c = 118 then ⟨#[99, 111, 45, 101, 120, 112, 114, 101, 115, 115, 105, 111, 110, 32, 101, 120, 112, 101, 99, 116, 101, 100]⟩ else
  if c = 119 then ⟨#[99, 111, 45, 101, 120, 112, 114, 101, 115, 115, 105, 111, 110, 32, 105, 115, 32, 97, 99, 116, 105, 118, 101]⟩ else
  if c = 122 then ⟨#[115, 101, 116, 32, 111, 114, 32, 116, 97, 98, 108, 101, 32, 101, 120, 112, 101, 99, 116, 101, 100]⟩ else
  if c = 124 then ⟨#[116, 97, 98, 108, 101, 32, 101, 120, 112, 101, 99, 116, 101, 100]⟩ else
  if c = 127 then ⟨#[112, 97, 116, 116, 101, 114, 110, 32, 101, 120, 112, 101, 99, 116, 101, 100]⟩ else
  if c = 201 then ⟨#[100, 105, 118, 105, 115, 105, 111, 110, 32, 98, 121, 32, 122, 101, 114, 111]⟩ else
  if c = 203 then ⟨#[105, 110, 116, 101, 103, 101, 114, 32, 111, 118, 101, 114, 102, 108, 111, 119]⟩ else
  if c = 205 then ⟨#[118, 97, 108, 117, 101, 32, 111, 117, 116, 32, 111, 102, 32, 114, 97, 110, 103, 101]⟩ else
  if c = 207 then ⟨#[114, 101, 99, 111, 114, 100, 32, 104, 97, 115, 32, 110, 111, 32, 115, 117, 99, 104, 32, 102, 105, 101, 108, 100]⟩ else
  if c = 301 then ⟨#[116, 111, 111, 32, 109, 97, 110, 121, 32, 97, 99, 116, 105, 118, 101, 32, 112, 114, 111, 99, 101, 100, 117, 114, 101, 115]⟩ else
  if c = 302 then ⟨#[114, 101, 115, 117, 108, 116, 32, 116, 111, 111, 32, 108, 97, 114, 103, 101]⟩ else
  ⟨#[]⟩
theorem fault_cases (c : Int) : c = 101 ∨ c = 103 ∨ c = 104 ∨ c = 106 ∨ c = 107 ∨ c = 108 ∨ c = 111 ∨ c = 114 ∨ c = 118 ∨ c = 119 ∨ c = 122 ∨ c = 124 ∨ c = 127 ∨ c = 201 ∨ c = 203 ∨ c = 205 ∨ c = 207 ∨ c = 301 ∨ c = 302 ∨ (c ≠ 101 ∧ c ≠ 103 ∧ c ≠ 104 ∧ c ≠ 106 ∧ c ≠ 107 ∧ c ≠ 108 ∧ c ≠ 111 ∧ c ≠ 114 ∧ c ≠ 118 ∧ c ≠ 119 ∧ c ≠ 122 ∧ c ≠ 124 ∧ c ≠ 127 ∧ c ≠ 201 ∧ c ≠ 203 ∧ c ≠ 205 ∧ c ≠ 207 ∧ c ≠ 301 ∧ c ≠ 302) := by omega
set_option maxHeartbeats 1000000 in
theorem specFaultText_101  (w : World) : Calls Try.prog 32 #[.int .i64 101] w fun e w' => e = .returned (.string ⟨#[105, 110, 116, 101, 103, 101, 114, 32, 101, 120, 112, 101, 99, 116, 101, 100, 32, 111, 114, 32, 111, 117, 116, 32, 111, 102, 32, 114, 97, 110, 103, 101]⟩) ∧ Bel w w' := by
  go_enter Try.func32, Try.ntmps32
  go_wp2
  go_returns
  exact ⟨rfl, (by repeat' (first | exact Bel.refl _ | with_reducible assumption | refine Bel.trans ?_ (by with_reducible assumption) | refine Bel.alloc ?_ _ | refine Bel.drew ?_ | refine Bel.drewN ?_ _ | refine Bel.set ?_ ?_ _ | (simp; done) | (simp; omega)))⟩
set_option maxHeartbeats 1000000 in
theorem specFaultText_103  (w : World) : Calls Try.prog 32 #[.int .i64 103] w fun e w' => e = .returned (.string ⟨#[115, 116, 114, 105, 110, 103, 32, 101, 120, 112, 101, 99, 116, 101, 100]⟩) ∧ Bel w w' := by
  go_enter Try.func32, Try.ntmps32
  go_wp2
  go_returns
  exact ⟨rfl, (by repeat' (first | exact Bel.refl _ | with_reducible assumption | refine Bel.trans ?_ (by with_reducible assumption) | refine Bel.alloc ?_ _ | refine Bel.drew ?_ | refine Bel.drewN ?_ _ | refine Bel.set ?_ ?_ _ | (simp; done) | (simp; omega)))⟩
set_option maxHeartbeats 1000000 in
theorem specFaultText_104  (w : World) : Calls Try.prog 32 #[.int .i64 104] w fun e w' => e = .returned (.string ⟨#[99, 115, 101, 116, 32, 101, 120, 112, 101, 99, 116, 101, 100]⟩) ∧ Bel w w' := by
  go_enter Try.func32, Try.ntmps32
  go_wp2
  go_returns
  exact ⟨rfl, (by repeat' (first | exact Bel.refl _ | with_reducible assumption | refine Bel.trans ?_ (by with_reducible assumption) | refine Bel.alloc ?_ _ | refine Bel.drew ?_ | refine Bel.drewN ?_ _ | refine Bel.set ?_ ?_ _ | (simp; done) | (simp; omega)))⟩
set_option maxHeartbeats 1000000 in
theorem specFaultText_106  (w : World) : Calls Try.prog 32 #[.int .i64 106] w fun e w' => e = .returned (.string ⟨#[112, 114, 111, 99, 101, 100, 117, 114, 101, 32, 111, 114, 32, 105, 110, 116, 101, 103, 101, 114, 32, 101, 120, 112, 101, 99, 116, 101, 100]⟩) ∧ Bel w w' := by
  go_enter Try.func32, Try.ntmps32
  go_wp2
  go_returns
  exact ⟨rfl, (by repeat' (first | exact Bel.refl _ | with_reducible assumption | refine Bel.trans ?_ (by with_reducible assumption) | refine Bel.alloc ?_ _ | refine Bel.drew ?_ | refine Bel.drewN ?_ _ | refine Bel.set ?_ ?_ _ | (simp; done) | (simp; omega)))⟩
set_option maxHeartbeats 1000000 in
theorem specFaultText_107  (w : World) : Calls Try.prog 32 #[.int .i64 107] w fun e w' => e = .returned (.string ⟨#[114, 101, 99, 111, 114, 100, 32, 101, 120, 112, 101, 99, 116, 101, 100]⟩) ∧ Bel w w' := by
  go_enter Try.func32, Try.ntmps32
  go_wp2
  go_returns
  exact ⟨rfl, (by repeat' (first | exact Bel.refl _ | with_reducible assumption | refine Bel.trans ?_ (by with_reducible assumption) | refine Bel.alloc ?_ _ | refine Bel.drew ?_ | refine Bel.drewN ?_ _ | refine Bel.set ?_ ?_ _ | (simp; done) | (simp; omega)))⟩
set_option maxHeartbeats 1000000 in
theorem specFaultText_108  (w : World) : Calls Try.prog 32 #[.int .i64 108] w fun e w' => e = .returned (.string ⟨#[108, 105, 115, 116, 32, 101, 120, 112, 101, 99, 116, 101, 100]⟩) ∧ Bel w w' := by
  go_enter Try.func32, Try.ntmps32
  go_wp2
  go_returns
  exact ⟨rfl, (by repeat' (first | exact Bel.refl _ | with_reducible assumption | refine Bel.trans ?_ (by with_reducible assumption) | refine Bel.alloc ?_ _ | refine Bel.drew ?_ | refine Bel.drewN ?_ _ | refine Bel.set ?_ ?_ _ | (simp; done) | (simp; omega)))⟩
set_option maxHeartbeats 1000000 in
theorem specFaultText_111  (w : World) : Calls Try.prog 32 #[.int .i64 111] w fun e w' => e = .returned (.string ⟨#[118, 97, 114, 105, 97, 98, 108, 101, 32, 101, 120, 112, 101, 99, 116, 101, 100]⟩) ∧ Bel w w' := by
  go_enter Try.func32, Try.ntmps32
  go_wp2
  go_returns
  exact ⟨rfl, (by repeat' (first | exact Bel.refl _ | with_reducible assumption | refine Bel.trans ?_ (by with_reducible assumption) | refine Bel.alloc ?_ _ | refine Bel.drew ?_ | refine Bel.drewN ?_ _ | refine Bel.set ?_ ?_ _ | (simp; done) | (simp; omega)))⟩
set_option maxHeartbeats 1000000 in
theorem specFaultText_114  (w : World) : Calls Try.prog 32 #[.int .i64 114] w fun e w' => e = .returned (.string ⟨#[115, 116, 114, 117, 99, 116, 117, 114, 101, 32, 101, 120, 112, 101, 99, 116, 101, 100]⟩) ∧ Bel w w' := by
  go_enter Try.func32, Try.ntmps32
  go_wp2
  go_returns
  exact ⟨rfl, (by repeat' (first | exact Bel.refl _ | with_reducible assumption | refine Bel.trans ?_ (by with_reducible assumption) | refine Bel.alloc ?_ _ | refine Bel.drew ?_ | refine Bel.drewN ?_ _ | refine Bel.set ?_ ?_ _ | (simp; done) | (simp; omega)))⟩
set_option maxHeartbeats 1000000 in
theorem specFaultText_118  (w : World) : Calls Try.prog 32 #[.int .i64 118] w fun e w' => e = .returned (.string ⟨#[99, 111, 45, 101, 120, 112, 114, 101, 115, 115, 105, 111, 110, 32, 101, 120, 112, 101, 99, 116, 101, 100]⟩) ∧ Bel w w' := by
  go_enter Try.func32, Try.ntmps32
  go_wp2
  go_returns
  exact ⟨rfl, (by repeat' (first | exact Bel.refl _ | with_reducible assumption | refine Bel.trans ?_ (by with_reducible assumption) | refine Bel.alloc ?_ _ | refine Bel.drew ?_ | refine Bel.drewN ?_ _ | refine Bel.set ?_ ?_ _ | (simp; done) | (simp; omega)))⟩
set_option maxHeartbeats 1000000 in
theorem specFaultText_119  (w : World) : Calls Try.prog 32 #[.int .i64 119] w fun e w' => e = .returned (.string ⟨#[99, 111, 45, 101, 120, 112, 114, 101, 115, 115, 105, 111, 110, 32, 105, 115, 32, 97, 99, 116, 105, 118, 101]⟩) ∧ Bel w w' := by
  go_enter Try.func32, Try.ntmps32
  go_wp2
  go_returns
  exact ⟨rfl, (by repeat' (first | exact Bel.refl _ | with_reducible assumption | refine Bel.trans ?_ (by with_reducible assumption) | refine Bel.alloc ?_ _ | refine Bel.drew ?_ | refine Bel.drewN ?_ _ | refine Bel.set ?_ ?_ _ | (simp; done) | (simp; omega)))⟩
set_option maxHeartbeats 1000000 in
theorem specFaultText_122  (w : World) : Calls Try.prog 32 #[.int .i64 122] w fun e w' => e = .returned (.string ⟨#[115, 101, 116, 32, 111, 114, 32, 116, 97, 98, 108, 101, 32, 101, 120, 112, 101, 99, 116, 101, 100]⟩) ∧ Bel w w' := by
  go_enter Try.func32, Try.ntmps32
  go_wp2
  go_returns
  exact ⟨rfl, (by repeat' (first | exact Bel.refl _ | with_reducible assumption | refine Bel.trans ?_ (by with_reducible assumption) | refine Bel.alloc ?_ _ | refine Bel.drew ?_ | refine Bel.drewN ?_ _ | refine Bel.set ?_ ?_ _ | (simp; done) | (simp; omega)))⟩
set_option maxHeartbeats 1000000 in
theorem specFaultText_124  (w : World) : Calls Try.prog 32 #[.int .i64 124] w fun e w' => e = .returned (.string ⟨#[116, 97, 98, 108, 101, 32, 101, 120, 112, 101, 99, 116, 101, 100]⟩) ∧ Bel w w' := by
  go_enter Try.func32, Try.ntmps32
  go_wp2
  go_returns
  exact ⟨rfl, (by repeat' (first | exact Bel.refl _ | with_reducible assumption | refine Bel.trans ?_ (by with_reducible assumption) | refine Bel.alloc ?_ _ | refine Bel.drew ?_ | refine Bel.drewN ?_ _ | refine Bel.set ?_ ?_ _ | (simp; done) | (simp; omega)))⟩
set_option maxHeartbeats 1000000 in
theorem specFaultText_127  (w : World) : Calls Try.prog 32 #[.int .i64 127] w fun e w' => e = .returned (.string ⟨#[112, 97, 116, 116, 101, 114, 110, 32, 101, 120, 112, 101, 99, 116, 101, 100]⟩) ∧ Bel w w' := by
  go_enter Try.func32, Try.ntmps32
  go_wp2
  go_returns
  exact ⟨rfl, (by repeat' (first | exact Bel.refl _ | with_reducible assumption | refine Bel.trans ?_ (by with_reducible assumption) | refine Bel.alloc ?_ _ | refine Bel.drew ?_ | refine Bel.drewN ?_ _ | refine Bel.set ?_ ?_ _ | (simp; done) | (simp; omega)))⟩
set_option maxHeartbeats 1000000 in
theorem specFaultText_201  (w : World) : Calls Try.prog 32 #[.int .i64 201] w fun e w' => e = .returned (.string ⟨#[100, 105, 118, 105, 115, 105, 111, 110, 32, 98, 121, 32, 122, 101, 114, 111]⟩) ∧ Bel w w' := by
  go_enter Try.func32, Try.ntmps32
  go_wp2
  go_returns
  exact ⟨rfl, (by repeat' (first | exact Bel.refl _ | with_reducible assumption | refine Bel.trans ?_ (by with_reducible assumption) | refine Bel.alloc ?_ _ | refine Bel.drew ?_ | refine Bel.drewN ?_ _ | refine Bel.set ?_ ?_ _ | (simp; done) | (simp; omega)))⟩
set_option maxHeartbeats 1000000 in
theorem specFaultText_203  (w : World) : Calls Try.prog 32 #[.int .i64 203] w fun e w' => e = .returned (.string ⟨#[105, 110, 116, 101, 103, 101, 114, 32, 111, 118, 101, 114, 102, 108, 111, 119]⟩) ∧ Bel w w' := by
  go_enter Try.func32, Try.ntmps32
  go_wp2
  go_returns
  exact ⟨rfl, (by repeat' (first | exact Bel.refl _ | with_reducible assumption | refine Bel.trans ?_ (by with_reducible assumption) | refine Bel.alloc ?_ _ | refine Bel.drew ?_ | refine Bel.drewN ?_ _ | refine Bel.set ?_ ?_ _ | (simp; done) | (simp; omega)))⟩
set_option maxHeartbeats 1000000 in
theorem specFaultText_205  (w : World) : Calls Try.prog 32 #[.int .i64 205] w fun e w' => e = .returned (.string ⟨#[118, 97, 108, 117, 101, 32, 111, 117, 116, 32, 111, 102, 32, 114, 97, 110, 103, 101]⟩) ∧ Bel w w' := by
  go_enter Try.func32, Try.ntmps32
  go_wp2
  go_returns
  exact ⟨rfl, (by repeat' (first | exact Bel.refl _ | with_reducible assumption | refine Bel.trans ?_ (by with_reducible assumption) | refine Bel.alloc ?_ _ | refine Bel.drew ?_ | refine Bel.drewN ?_ _ | refine Bel.set ?_ ?_ _ | (simp; done) | (simp; omega)))⟩
set_option maxHeartbeats 1000000 in
theorem specFaultText_207  (w : World) : Calls Try.prog 32 #[.int .i64 207] w fun e w' => e = .returned (.string ⟨#[114, 101, 99, 111, 114, 100, 32, 104, 97, 115, 32, 110, 111, 32, 115, 117, 99, 104, 32, 102, 105, 101, 108, 100]⟩) ∧ Bel w w' := by
  go_enter Try.func32, Try.ntmps32
  go_wp2
  go_returns
  exact ⟨rfl, (by repeat' (first | exact Bel.refl _ | with_reducible assumption | refine Bel.trans ?_ (by with_reducible assumption) | refine Bel.alloc ?_ _ | refine Bel.drew ?_ | refine Bel.drewN ?_ _ | refine Bel.set ?_ ?_ _ | (simp; done) | (simp; omega)))⟩
set_option maxHeartbeats 1000000 in
theorem specFaultText_301  (w : World) : Calls Try.prog 32 #[.int .i64 301] w fun e w' => e = .returned (.string ⟨#[116, 111, 111, 32, 109, 97, 110, 121, 32, 97, 99, 116, 105, 118, 101, 32, 112, 114, 111, 99, 101, 100, 117, 114, 101, 115]⟩) ∧ Bel w w' := by
  go_enter Try.func32, Try.ntmps32
  go_wp2
  go_returns
  exact ⟨rfl, (by repeat' (first | exact Bel.refl _ | with_reducible assumption | refine Bel.trans ?_ (by with_reducible assumption) | refine Bel.alloc ?_ _ | refine Bel.drew ?_ | refine Bel.drewN ?_ _ | refine Bel.set ?_ ?_ _ | (simp; done) | (simp; omega)))⟩
set_option maxHeartbeats 1000000 in
theorem specFaultText_302  (w : World) : Calls Try.prog 32 #[.int .i64 302] w fun e w' => e = .returned (.string ⟨#[114, 101, 115, 117, 108, 116, 32, 116, 111, 111, 32, 108, 97, 114, 103, 101]⟩) ∧ Bel w w' := by
  go_enter Try.func32, Try.ntmps32
  go_wp2
  go_returns
  exact ⟨rfl, (by repeat' (first | exact Bel.refl _ | with_reducible assumption | refine Bel.trans ?_ (by with_reducible assumption) | refine Bel.alloc ?_ _ | refine Bel.drew ?_ | refine Bel.drewN ?_ _ | refine Bel.set ?_ ?_ _ | (simp; done) | (simp; omega)))⟩
set_option maxHeartbeats 1000000 in
theorem specFaultText_none (c : Int) (h101 : ¬ c = 101) (h103 : ¬ c = 103) (h104 : ¬ c = 104) (h106 : ¬ c = 106) (h107 : ¬ c = 107) (h108 : ¬ c = 108) (h111 : ¬ c = 111) (h114 : ¬ c = 114) (h118 : ¬ c = 118) (h119 : ¬ c = 119) (h122 : ¬ c = 122) (h124 : ¬ c = 124) (h127 : ¬ c = 127) (h201 : ¬ c = 201) (h203 : ¬ c = 203) (h205 : ¬ c = 205) (h207 : ¬ c = 207) (h301 : ¬ c = 301) (h302 : ¬ c = 302) (w : World) : Calls Try.prog 32 #[.int .i64 c] w fun e w' => e = .returned (.string ⟨#[]⟩) ∧ Bel w w' := by
  go_enter Try.func32, Try.ntmps32
  go_wp2
  go_returns
  exact ⟨rfl, (by repeat' (first | exact Bel.refl _ | with_reducible assumption | refine Bel.trans ?_ (by with_reducible assumption) | refine Bel.alloc ?_ _ | refine Bel.drew ?_ | refine Bel.drewN ?_ _ | refine Bel.set ?_ ?_ _ | (simp; done) | (simp; omega)))⟩
set_option maxHeartbeats 1000000 in
theorem implFaultText_101  (w : World) : Calls Try.prog 33 #[.int .i64 101] w fun e w' => e = .returned (.string ⟨#[105, 110, 116, 101, 103, 101, 114, 32, 101, 120, 112, 101, 99, 116, 101, 100, 32, 111, 114, 32, 111, 117, 116, 32, 111, 102, 32, 114, 97, 110, 103, 101]⟩) ∧ Bel w w' := by
  have hmm := @run_makeMap Try.prog
  go_enter Try.func33, Try.ntmps33
  go_wp2
  go_returns
  exact ⟨rfl, (by repeat' (first | exact Bel.refl _ | with_reducible assumption | refine Bel.trans ?_ (by with_reducible assumption) | refine Bel.alloc ?_ _ | refine Bel.drew ?_ | refine Bel.drewN ?_ _ | refine Bel.set ?_ ?_ _ | (simp; done) | (simp; omega)))⟩
set_option maxHeartbeats 1000000 in
theorem implFaultText_103  (w : World) : Calls Try.prog 33 #[.int .i64 103] w fun e w' => e = .returned (.string ⟨#[115, 116, 114, 105, 110, 103, 32, 101, 120, 112, 101, 99, 116, 101, 100]⟩) ∧ Bel w w' := by
  have hmm := @run_makeMap Try.prog
  go_enter Try.func33, Try.ntmps33
  go_wp2
  go_returns
  exact ⟨rfl, (by repeat' (first | exact Bel.refl _ | with_reducible assumption | refine Bel.trans ?_ (by with_reducible assumption) | refine Bel.alloc ?_ _ | refine Bel.drew ?_ | refine Bel.drewN ?_ _ | refine Bel.set ?_ ?_ _ | (simp; done) | (simp; omega)))⟩
set_option maxHeartbeats 1000000 in
theorem implFaultText_104  (w : World) : Calls Try.prog 33 #[.int .i64 104] w fun e w' => e = .returned (.string ⟨#[99, 115, 101, 116, 32, 101, 120, 112, 101, 99, 116, 101, 100]⟩) ∧ Bel w w' := by
  have hmm := @run_makeMap Try.prog
  go_enter Try.func33, Try.ntmps33
  go_wp2
  go_returns
  exact ⟨rfl, (by repeat' (first | exact Bel.refl _ | with_reducible assumption | refine Bel.trans ?_ (by with_reducible assumption) | refine Bel.alloc ?_ _ | refine Bel.drew ?_ | refine Bel.drewN ?_ _ | refine Bel.set ?_ ?_ _ | (simp; done) | (simp; omega)))⟩
set_option maxHeartbeats 1000000 in
theorem implFaultText_106  (w : World) : Calls Try.prog 33 #[.int .i64 106] w fun e w' => e = .returned (.string ⟨#[112, 114, 111, 99, 101, 100, 117, 114, 101, 32, 111, 114, 32, 105, 110, 116, 101, 103, 101, 114, 32, 101, 120, 112, 101, 99, 116, 101, 100]⟩) ∧ Bel w w' := by
  have hmm := @run_makeMap Try.prog
  go_enter Try.func33, Try.ntmps33
  go_wp2
  go_returns
  exact ⟨rfl, (by repeat' (first | exact Bel.refl _ | with_reducible assumption | refine Bel.trans ?_ (by with_reducible assumption) | refine Bel.alloc ?_ _ | refine Bel.drew ?_ | refine Bel.drewN ?_ _ | refine Bel.set ?_ ?_ _ | (simp; done) | (simp; omega)))⟩
set_option maxHeartbeats 1000000 in
theorem implFaultText_107  (w : World) : Calls Try.prog 33 #[.int .i64 107] w fun e w' => e = .returned (.string ⟨#[114, 101, 99, 111, 114, 100, 32, 101, 120, 112, 101, 99, 116, 101, 100]⟩) ∧ Bel w w' := by
  have hmm := @run_makeMap Try.prog
  go_enter Try.func33, Try.ntmps33
  go_wp2
  go_returns
  exact ⟨rfl, (by repeat' (first | exact Bel.refl _ | with_reducible assumption | refine Bel.trans ?_ (by with_reducible assumption) | refine Bel.alloc ?_ _ | refine Bel.drew ?_ | refine Bel.drewN ?_ _ | refine Bel.set ?_ ?_ _ | (simp; done) | (simp; omega)))⟩
set_option maxHeartbeats 1000000 in
theorem implFaultText_108  (w : World) : Calls Try.prog 33 #[.int .i64 108] w fun e w' => e = .returned (.string ⟨#[108, 105, 115, 116, 32, 101, 120, 112, 101, 99, 116, 101, 100]⟩) ∧ Bel w w' := by
  have hmm := @run_makeMap Try.prog
  go_enter Try.func33, Try.ntmps33
  go_wp2
  go_returns
  exact ⟨rfl, (by repeat' (first | exact Bel.refl _ | with_reducible assumption | refine Bel.trans ?_ (by with_reducible assumption) | refine Bel.alloc ?_ _ | refine Bel.drew ?_ | refine Bel.drewN ?_ _ | refine Bel.set ?_ ?_ _ | (simp; done) | (simp; omega)))⟩
set_option maxHeartbeats 1000000 in
theorem implFaultText_111  (w : World) : Calls Try.prog 33 #[.int .i64 111] w fun e w' => e = .returned (.string ⟨#[118, 97, 114, 105, 97, 98, 108, 101, 32, 101, 120, 112, 101, 99, 116, 101, 100]⟩) ∧ Bel w w' := by
  have hmm := @run_makeMap Try.prog
  go_enter Try.func33, Try.ntmps33
  go_wp2
  go_returns
  exact ⟨rfl, (by repeat' (first | exact Bel.refl _ | with_reducible assumption | refine Bel.trans ?_ (by with_reducible assumption) | refine Bel.alloc ?_ _ | refine Bel.drew ?_ | refine Bel.drewN ?_ _ | refine Bel.set ?_ ?_ _ | (simp; done) | (simp; omega)))⟩
set_option maxHeartbeats 1000000 in
theorem implFaultText_114  (w : World) : Calls Try.prog 33 #[.int .i64 114] w fun e w' => e = .returned (.string ⟨#[115, 116, 114, 117, 99, 116, 117, 114, 101, 32, 101, 120, 112, 101, 99, 116, 101, 100]⟩) ∧ Bel w w' := by
  have hmm := @run_makeMap Try.prog
  go_enter Try.func33, Try.ntmps33
  go_wp2
  go_returns
  exact ⟨rfl, (by repeat' (first | exact Bel.refl _ | with_reducible assumption | refine Bel.trans ?_ (by with_reducible assumption) | refine Bel.alloc ?_ _ | refine Bel.drew ?_ | refine Bel.drewN ?_ _ | refine Bel.set ?_ ?_ _ | (simp; done) | (simp; omega)))⟩
set_option maxHeartbeats 1000000 in
theorem implFaultText_118  (w : World) : Calls Try.prog 33 #[.int .i64 118] w fun e w' => e = .returned (.string ⟨#[99, 111, 45, 101, 120, 112, 114, 101, 115, 115, 105, 111, 110, 32, 101, 120, 112, 101, 99, 116, 101, 100]⟩) ∧ Bel w w' := by
  have hmm := @run_makeMap Try.prog
  go_enter Try.func33, Try.ntmps33
  go_wp2
  go_returns
  exact ⟨rfl, (by repeat' (first | exact Bel.refl _ | with_reducible assumption | refine Bel.trans ?_ (by with_reducible assumption) | refine Bel.alloc ?_ _ | refine Bel.drew ?_ | refine Bel.drewN ?_ _ | refine Bel.set ?_ ?_ _ | (simp; done) | (simp; omega)))⟩
set_option maxHeartbeats 1000000 in
theorem implFaultText_119  (w : World) : Calls Try.prog 33 #[.int .i64 119] w fun e w' => e = .returned (.string ⟨#[99, 111, 45, 101, 120, 112, 114, 101, 115, 115, 105, 111, 110, 32, 105, 115, 32, 97, 99, 116, 105, 118, 101]⟩) ∧ Bel w w' := by
  have hmm := @run_makeMap Try.prog
  go_enter Try.func33, Try.ntmps33
  go_wp2
  go_returns
  exact ⟨rfl, (by repeat' (first | exact Bel.refl _ | with_reducible assumption | refine Bel.trans ?_ (by with_reducible assumption) | refine Bel.alloc ?_ _ | refine Bel.drew ?_ | refine Bel.drewN ?_ _ | refine Bel.set ?_ ?_ _ | (simp; done) | (simp; omega)))⟩
set_option maxHeartbeats 1000000 in
theorem implFaultText_122  (w : World) : Calls Try.prog 33 #[.int .i64 122] w fun e w' => e = .returned (.string ⟨#[115, 101, 116, 32, 111, 114, 32, 116, 97, 98, 108, 101, 32, 101, 120, 112, 101, 99, 116, 101, 100]⟩) ∧ Bel w w' := by
  have hmm := @run_makeMap Try.prog
  go_enter Try.func33, Try.ntmps33
  go_wp2
  go_returns
  exact ⟨rfl, (by repeat' (first | exact Bel.refl _ | with_reducible assumption | refine Bel.trans ?_ (by with_reducible assumption) | refine Bel.alloc ?_ _ | refine Bel.drew ?_ | refine Bel.drewN ?_ _ | refine Bel.set ?_ ?_ _ | (simp; done) | (simp; omega)))⟩
set_option maxHeartbeats 1000000 in
theorem implFaultText_124  (w : World) : Calls Try.prog 33 #[.int .i64 124] w fun e w' => e = .returned (.string ⟨#[116, 97, 98, 108, 101, 32, 101, 120, 112, 101, 99, 116, 101, 100]⟩) ∧ Bel w w' := by
  have hmm := @run_makeMap Try.prog
  go_enter Try.func33, Try.ntmps33
  go_wp2
  go_returns
  exact ⟨rfl, (by repeat' (first | exact Bel.refl _ | with_reducible assumption | refine Bel.trans ?_ (by with_reducible assumption) | refine Bel.alloc ?_ _ | refine Bel.drew ?_ | refine Bel.drewN ?_ _ | refine Bel.set ?_ ?_ _ | (simp; done) | (simp; omega)))⟩
set_option maxHeartbeats 1000000 in
theorem implFaultText_127  (w : World) : Calls Try.prog 33 #[.int .i64 127] w fun e w' => e = .returned (.string ⟨#[112, 97, 116, 116, 101, 114, 110, 32, 101, 120, 112, 101, 99, 116, 101, 100]⟩) ∧ Bel w w' := by
  have hmm := @run_makeMap Try.prog
  go_enter Try.func33, Try.ntmps33
  go_wp2
  go_returns
  exact ⟨rfl, (by repeat' (first | exact Bel.refl _ | with_reducible assumption | refine Bel.trans ?_ (by with_reducible assumption) | refine Bel.alloc ?_ _ | refine Bel.drew ?_ | refine Bel.drewN ?_ _ | refine Bel.set ?_ ?_ _ | (simp; done) | (simp; omega)))⟩
set_option maxHeartbeats 1000000 in
theorem implFaultText_201  (w : World) : Calls Try.prog 33 #[.int .i64 201] w fun e w' => e = .returned (.string ⟨#[100, 105, 118, 105, 115, 105, 111, 110, 32, 98, 121, 32, 122, 101, 114, 111]⟩) ∧ Bel w w' := by
  have hmm := @run_makeMap Try.prog
  go_enter Try.func33, Try.ntmps33
  go_wp2
  go_returns
  exact ⟨rfl, (by repeat' (first | exact Bel.refl _ | with_reducible assumption | refine Bel.trans ?_ (by with_reducible assumption) | refine Bel.alloc ?_ _ | refine Bel.drew ?_ | refine Bel.drewN ?_ _ | refine Bel.set ?_ ?_ _ | (simp; done) | (simp; omega)))⟩
set_option maxHeartbeats 1000000 in
theorem implFaultText_203  (w : World) : Calls Try.prog 33 #[.int .i64 203] w fun e w' => e = .returned (.string ⟨#[105, 110, 116, 101, 103, 101, 114, 32, 111, 118, 101, 114, 102, 108, 111, 119]⟩) ∧ Bel w w' := by
  have hmm := @run_makeMap Try.prog
  go_enter Try.func33, Try.ntmps33
  go_wp2
  go_returns
  exact ⟨rfl, (by repeat' (first | exact Bel.refl _ | with_reducible assumption | refine Bel.trans ?_ (by with_reducible assumption) | refine Bel.alloc ?_ _ | refine Bel.drew ?_ | refine Bel.drewN ?_ _ | refine Bel.set ?_ ?_ _ | (simp; done) | (simp; omega)))⟩
set_option maxHeartbeats 1000000 in
theorem implFaultText_205  (w : World) : Calls Try.prog 33 #[.int .i64 205] w fun e w' => e = .returned (.string ⟨#[118, 97, 108, 117, 101, 32, 111, 117, 116, 32, 111, 102, 32, 114, 97, 110, 103, 101]⟩) ∧ Bel w w' := by
  have hmm := @run_makeMap Try.prog
  go_enter Try.func33, Try.ntmps33
  go_wp2
  go_returns
  exact ⟨rfl, (by repeat' (first | exact Bel.refl _ | with_reducible assumption | refine Bel.trans ?_ (by with_reducible assumption) | refine Bel.alloc ?_ _ | refine Bel.drew ?_ | refine Bel.drewN ?_ _ | refine Bel.set ?_ ?_ _ | (simp; done) | (simp; omega)))⟩
set_option maxHeartbeats 1000000 in
theorem implFaultText_207  (w : World) : Calls Try.prog 33 #[.int .i64 207] w fun e w' => e = .returned (.string ⟨#[114, 101, 99, 111, 114, 100, 32, 104, 97, 115, 32, 110, 111, 32, 115, 117, 99, 104, 32, 102, 105, 101, 108, 100]⟩) ∧ Bel w w' := by
  have hmm := @run_makeMap Try.prog
  go_enter Try.func33, Try.ntmps33
  go_wp2
  go_returns
  exact ⟨rfl, (by repeat' (first | exact Bel.refl _ | with_reducible assumption | refine Bel.trans ?_ (by with_reducible assumption) | refine Bel.alloc ?_ _ | refine Bel.drew ?_ | refine Bel.drewN ?_ _ | refine Bel.set ?_ ?_ _ | (simp; done) | (simp; omega)))⟩
set_option maxHeartbeats 1000000 in
theorem implFaultText_301  (w : World) : Calls Try.prog 33 #[.int .i64 301] w fun e w' => e = .returned (.string ⟨#[116, 111, 111, 32, 109, 97, 110, 121, 32, 97, 99, 116, 105, 118, 101, 32, 112, 114, 111, 99, 101, 100, 117, 114, 101, 115]⟩) ∧ Bel w w' := by
  have hmm := @run_makeMap Try.prog
  go_enter Try.func33, Try.ntmps33
  go_wp2
  go_returns
  exact ⟨rfl, (by repeat' (first | exact Bel.refl _ | with_reducible assumption | refine Bel.trans ?_ (by with_reducible assumption) | refine Bel.alloc ?_ _ | refine Bel.drew ?_ | refine Bel.drewN ?_ _ | refine Bel.set ?_ ?_ _ | (simp; done) | (simp; omega)))⟩
set_option maxHeartbeats 1000000 in
theorem implFaultText_302  (w : World) : Calls Try.prog 33 #[.int .i64 302] w fun e w' => e = .returned (.string ⟨#[114, 101, 115, 117, 108, 116, 32, 116, 111, 111, 32, 108, 97, 114, 103, 101]⟩) ∧ Bel w w' := by
  have hmm := @run_makeMap Try.prog
  go_enter Try.func33, Try.ntmps33
  go_wp2
  go_returns
  exact ⟨rfl, (by repeat' (first | exact Bel.refl _ | with_reducible assumption | refine Bel.trans ?_ (by with_reducible assumption) | refine Bel.alloc ?_ _ | refine Bel.drew ?_ | refine Bel.drewN ?_ _ | refine Bel.set ?_ ?_ _ | (simp; done) | (simp; omega)))⟩
set_option maxHeartbeats 1000000 in
theorem implFaultText_none (c : Int) (h101 : ¬ c = 101) (h103 : ¬ c = 103) (h104 : ¬ c = 104) (h106 : ¬ c = 106) (h107 : ¬ c = 107) (h108 : ¬ c = 108) (h111 : ¬ c = 111) (h114 : ¬ c = 114) (h118 : ¬ c = 118) (h119 : ¬ c = 119) (h122 : ¬ c = 122) (h124 : ¬ c = 124) (h127 : ¬ c = 127) (h201 : ¬ c = 201) (h203 : ¬ c = 203) (h205 : ¬ c = 205) (h207 : ¬ c = 207) (h301 : ¬ c = 301) (h302 : ¬ c = 302) (w : World) : Calls Try.prog 33 #[.int .i64 c] w fun e w' => e = .returned (.string ⟨#[]⟩) ∧ Bel w w' := by
  have hmm := @run_makeMap Try.prog
  go_enter Try.func33, Try.ntmps33
  go_wp2
  go_returns
  exact ⟨rfl, (by repeat' (first | exact Bel.refl _ | with_reducible assumption | refine Bel.trans ?_ (by with_reducible assumption) | refine Bel.alloc ?_ _ | refine Bel.drew ?_ | refine Bel.drewN ?_ _ | refine Bel.set ?_ ?_ _ | (simp; done) | (simp; omega)))⟩
theorem specFaultText_any (c : Int) (w : World) : Calls Try.prog 32 #[.int .i64 c] w fun e w' => e = .returned (.string (faultText c)) ∧ Bel w w' := by
  rcases fault_cases c with rfl | rfl | rfl | rfl | rfl | rfl | rfl | rfl | rfl | rfl | rfl | rfl | rfl | rfl | rfl | rfl | rfl | rfl | rfl | ⟨h101, h103, h104, h106, h107, h108, h111, h114, h118, h119, h122, h124, h127, h201, h203, h205, h207, h301, h302⟩
  · exact specFaultText_101 w
  · exact specFaultText_103 w
  · exact specFaultText_104 w
  · exact specFaultText_106 w
  · exact specFaultText_107 w
  · exact specFaultText_108 w
  · exact specFaultText_111 w
  · exact specFaultText_114 w
  · exact specFaultText_118 w
  · exact specFaultText_119 w
  · exact specFaultText_122 w
  · exact specFaultText_124 w
  · exact specFaultText_127 w
  · exact specFaultText_201 w
  · exact specFaultText_203 w
  · exact specFaultText_205 w
  · exact specFaultText_207 w
  · exact specFaultText_301 w
  · exact specFaultText_302 w
  · have e : faultText c = ⟨#[]⟩ := by unfold faultText; rw [if_neg h101, if_neg h103, if_neg h104, if_neg h106, if_neg h107, if_neg h108, if_neg h111, if_neg h114, if_neg h118, if_neg h119, if_neg h122, if_neg h124, if_neg h127, if_neg h201, if_neg h203, if_neg h205, if_neg h207, if_neg h301, if_neg h302]
    rw [e]
    exact specFaultText_none c h101 h103 h104 h106 h107 h108 h111 h114 h118 h119 h122 h124 h127 h201 h203 h205 h207 h301 h302 w
theorem implFaultText_any (c : Int) (w : World) : Calls Try.prog 33 #[.int .i64 c] w fun e w' => e = .returned (.string (faultText c)) ∧ Bel w w' := by
  rcases fault_cases c with rfl | rfl | rfl | rfl | rfl | rfl | rfl | rfl | rfl | rfl | rfl | rfl | rfl | rfl | rfl | rfl | rfl | rfl | rfl | ⟨h101, h103, h104, h106, h107, h108, h111, h114, h118, h119, h122, h124, h127, h201, h203, h205, h207, h301, h302⟩
  · exact implFaultText_101 w
  · exact implFaultText_103 w
  · exact implFaultText_104 w
  · exact implFaultText_106 w
  · exact implFaultText_107 w
  · exact implFaultText_108 w
  · exact implFaultText_111 w
  · exact implFaultText_114 w
  · exact implFaultText_118 w
  · exact implFaultText_119 w
  · exact implFaultText_122 w
  · exact implFaultText_124 w
  · exact implFaultText_127 w
  · exact implFaultText_201 w
  · exact implFaultText_203 w
  · exact implFaultText_205 w
  · exact implFaultText_207 w
  · exact implFaultText_301 w
  · exact implFaultText_302 w
  · have e : faultText c = ⟨#[]⟩ := by unfold faultText; rw [if_neg h101, if_neg h103, if_neg h104, if_neg h106, if_neg h107, if_neg h108, if_neg h111, if_neg h114, if_neg h118, if_neg h119, if_neg h122, if_neg h124, if_neg h127, if_neg h201, if_neg h203, if_neg h205, if_neg h207, if_neg h301, if_neg h302]
    rw [e]
    exact implFaultText_none c h101 h103 h104 h106 h107 h108 h111 h114 h118 h119 h122 h124 h127 h201 h203 h205 h207 h301 h302 w
/-- TypeName by the kind. -/
def typeName (k : Int) : ByteArray :=
  if k = 0 then ⟨#[110, 117, 108, 108]⟩ else
  if k = 1 then ⟨#[105, 110, 116, 101, 103, 101, 114]⟩ else
  if k = 2 then ⟨#[115, 116, 114, 105, 110, 103]⟩ else
  if k = 3 then ⟨#[99, 115, 101, 116]⟩ else
  if k = 4 then ⟨#[108, 105, 115, 116]⟩ else
  if k = 5 then ⟨#[116, 97, 98, 108, 101]⟩ else
  if k = 6 then ⟨#[115, 101, 116]⟩ else
  if k = 7 then ⟨#[114, 101, 99, 111, 114, 100]⟩ else
  if k = 8 then ⟨#[112, 114, 111, 99, 101, 100, 117, 114, 101]⟩ else
  if k = 9 then ⟨#[112, 114, 111, 99, 101, 100, 117, 114, 101]⟩ else
  if k = 10 then ⟨#[112, 114, 111, 99, 101, 100, 117, 114, 101]⟩ else
  if k = 11 then ⟨#[99, 111, 45, 101, 120, 112, 114, 101, 115, 115, 105, 111, 110]⟩ else
  if k = 12 then ⟨#[112, 97, 116, 116, 101, 114, 110]⟩ else
  if k = 13 then ⟨#[118, 97, 114, 105, 97, 98, 108, 101]⟩ else
  if k = 14 then ⟨#[118, 97, 114, 105, 97, 98, 108, 101]⟩ else
  if k = 15 then ⟨#[118, 97, 114, 105, 97, 98, 108, 101]⟩ else
  if k = 16 then ⟨#[118, 97, 114, 105, 97, 98, 108, 101]⟩ else
  if k = 17 then ⟨#[118, 97, 114, 105, 97, 98, 108, 101]⟩ else
  if k = 18 then ⟨#[118, 97, 114, 105, 97, 98, 108, 101]⟩ else
  if k = 19 then ⟨#[102, 114, 97, 109, 101]⟩ else
  if k = 20 then ⟨#[115, 99, 97, 110]⟩ else
  ⟨#[]⟩
theorem kind_cases (k : Int) : k = 0 ∨ k = 1 ∨ k = 2 ∨ k = 3 ∨ k = 4 ∨ k = 5 ∨ k = 6 ∨ k = 7 ∨ k = 8 ∨ k = 9 ∨ k = 10 ∨ k = 11 ∨ k = 12 ∨ k = 13 ∨ k = 14 ∨ k = 15 ∨ k = 16 ∨ k = 17 ∨ k = 18 ∨ k = 19 ∨ k = 20 ∨ k < 0 ∨ 20 < k := by omega
set_option maxHeartbeats 1000000 in
theorem specTypeName_0 (n i : Int) (t : ByteArray) (lo hi : Int) (w : World) : Calls Try.prog 30 #[(VVal.mk 0 n i t lo hi).val] w fun e w' => e = .returned (.string ⟨#[110, 117, 108, 108]⟩) ∧ Bel w w' := by
  simp only [VVal.val]
  go_enter Try.func30, Try.ntmps30
  go_wp2
  go_returns
  exact ⟨rfl, (by repeat' (first | exact Bel.refl _ | with_reducible assumption | refine Bel.trans ?_ (by with_reducible assumption) | refine Bel.alloc ?_ _ | refine Bel.drew ?_ | refine Bel.drewN ?_ _ | refine Bel.set ?_ ?_ _ | (simp; done) | (simp; omega)))⟩
set_option maxHeartbeats 1000000 in
theorem specTypeName_1 (n i : Int) (t : ByteArray) (lo hi : Int) (w : World) : Calls Try.prog 30 #[(VVal.mk 1 n i t lo hi).val] w fun e w' => e = .returned (.string ⟨#[105, 110, 116, 101, 103, 101, 114]⟩) ∧ Bel w w' := by
  simp only [VVal.val]
  go_enter Try.func30, Try.ntmps30
  go_wp2
  go_returns
  exact ⟨rfl, (by repeat' (first | exact Bel.refl _ | with_reducible assumption | refine Bel.trans ?_ (by with_reducible assumption) | refine Bel.alloc ?_ _ | refine Bel.drew ?_ | refine Bel.drewN ?_ _ | refine Bel.set ?_ ?_ _ | (simp; done) | (simp; omega)))⟩
set_option maxHeartbeats 1000000 in
theorem specTypeName_2 (n i : Int) (t : ByteArray) (lo hi : Int) (w : World) : Calls Try.prog 30 #[(VVal.mk 2 n i t lo hi).val] w fun e w' => e = .returned (.string ⟨#[115, 116, 114, 105, 110, 103]⟩) ∧ Bel w w' := by
  simp only [VVal.val]
  go_enter Try.func30, Try.ntmps30
  go_wp2
  go_returns
  exact ⟨rfl, (by repeat' (first | exact Bel.refl _ | with_reducible assumption | refine Bel.trans ?_ (by with_reducible assumption) | refine Bel.alloc ?_ _ | refine Bel.drew ?_ | refine Bel.drewN ?_ _ | refine Bel.set ?_ ?_ _ | (simp; done) | (simp; omega)))⟩
set_option maxHeartbeats 1000000 in
theorem specTypeName_3 (n i : Int) (t : ByteArray) (lo hi : Int) (w : World) : Calls Try.prog 30 #[(VVal.mk 3 n i t lo hi).val] w fun e w' => e = .returned (.string ⟨#[99, 115, 101, 116]⟩) ∧ Bel w w' := by
  simp only [VVal.val]
  go_enter Try.func30, Try.ntmps30
  go_wp2
  go_returns
  exact ⟨rfl, (by repeat' (first | exact Bel.refl _ | with_reducible assumption | refine Bel.trans ?_ (by with_reducible assumption) | refine Bel.alloc ?_ _ | refine Bel.drew ?_ | refine Bel.drewN ?_ _ | refine Bel.set ?_ ?_ _ | (simp; done) | (simp; omega)))⟩
set_option maxHeartbeats 1000000 in
theorem specTypeName_4 (n i : Int) (t : ByteArray) (lo hi : Int) (w : World) : Calls Try.prog 30 #[(VVal.mk 4 n i t lo hi).val] w fun e w' => e = .returned (.string ⟨#[108, 105, 115, 116]⟩) ∧ Bel w w' := by
  simp only [VVal.val]
  go_enter Try.func30, Try.ntmps30
  go_wp2
  go_returns
  exact ⟨rfl, (by repeat' (first | exact Bel.refl _ | with_reducible assumption | refine Bel.trans ?_ (by with_reducible assumption) | refine Bel.alloc ?_ _ | refine Bel.drew ?_ | refine Bel.drewN ?_ _ | refine Bel.set ?_ ?_ _ | (simp; done) | (simp; omega)))⟩
set_option maxHeartbeats 1000000 in
theorem specTypeName_5 (n i : Int) (t : ByteArray) (lo hi : Int) (w : World) : Calls Try.prog 30 #[(VVal.mk 5 n i t lo hi).val] w fun e w' => e = .returned (.string ⟨#[116, 97, 98, 108, 101]⟩) ∧ Bel w w' := by
  simp only [VVal.val]
  go_enter Try.func30, Try.ntmps30
  go_wp2
  go_returns
  exact ⟨rfl, (by repeat' (first | exact Bel.refl _ | with_reducible assumption | refine Bel.trans ?_ (by with_reducible assumption) | refine Bel.alloc ?_ _ | refine Bel.drew ?_ | refine Bel.drewN ?_ _ | refine Bel.set ?_ ?_ _ | (simp; done) | (simp; omega)))⟩
set_option maxHeartbeats 1000000 in
theorem specTypeName_6 (n i : Int) (t : ByteArray) (lo hi : Int) (w : World) : Calls Try.prog 30 #[(VVal.mk 6 n i t lo hi).val] w fun e w' => e = .returned (.string ⟨#[115, 101, 116]⟩) ∧ Bel w w' := by
  simp only [VVal.val]
  go_enter Try.func30, Try.ntmps30
  go_wp2
  go_returns
  exact ⟨rfl, (by repeat' (first | exact Bel.refl _ | with_reducible assumption | refine Bel.trans ?_ (by with_reducible assumption) | refine Bel.alloc ?_ _ | refine Bel.drew ?_ | refine Bel.drewN ?_ _ | refine Bel.set ?_ ?_ _ | (simp; done) | (simp; omega)))⟩
set_option maxHeartbeats 1000000 in
theorem specTypeName_7 (n i : Int) (t : ByteArray) (lo hi : Int) (w : World) : Calls Try.prog 30 #[(VVal.mk 7 n i t lo hi).val] w fun e w' => e = .returned (.string ⟨#[114, 101, 99, 111, 114, 100]⟩) ∧ Bel w w' := by
  simp only [VVal.val]
  go_enter Try.func30, Try.ntmps30
  go_wp2
  go_returns
  exact ⟨rfl, (by repeat' (first | exact Bel.refl _ | with_reducible assumption | refine Bel.trans ?_ (by with_reducible assumption) | refine Bel.alloc ?_ _ | refine Bel.drew ?_ | refine Bel.drewN ?_ _ | refine Bel.set ?_ ?_ _ | (simp; done) | (simp; omega)))⟩
set_option maxHeartbeats 1000000 in
theorem specTypeName_8 (n i : Int) (t : ByteArray) (lo hi : Int) (w : World) : Calls Try.prog 30 #[(VVal.mk 8 n i t lo hi).val] w fun e w' => e = .returned (.string ⟨#[112, 114, 111, 99, 101, 100, 117, 114, 101]⟩) ∧ Bel w w' := by
  simp only [VVal.val]
  go_enter Try.func30, Try.ntmps30
  go_wp2
  go_returns
  exact ⟨rfl, (by repeat' (first | exact Bel.refl _ | with_reducible assumption | refine Bel.trans ?_ (by with_reducible assumption) | refine Bel.alloc ?_ _ | refine Bel.drew ?_ | refine Bel.drewN ?_ _ | refine Bel.set ?_ ?_ _ | (simp; done) | (simp; omega)))⟩
set_option maxHeartbeats 1000000 in
theorem specTypeName_9 (n i : Int) (t : ByteArray) (lo hi : Int) (w : World) : Calls Try.prog 30 #[(VVal.mk 9 n i t lo hi).val] w fun e w' => e = .returned (.string ⟨#[112, 114, 111, 99, 101, 100, 117, 114, 101]⟩) ∧ Bel w w' := by
  simp only [VVal.val]
  go_enter Try.func30, Try.ntmps30
  go_wp2
  go_returns
  exact ⟨rfl, (by repeat' (first | exact Bel.refl _ | with_reducible assumption | refine Bel.trans ?_ (by with_reducible assumption) | refine Bel.alloc ?_ _ | refine Bel.drew ?_ | refine Bel.drewN ?_ _ | refine Bel.set ?_ ?_ _ | (simp; done) | (simp; omega)))⟩
set_option maxHeartbeats 1000000 in
theorem specTypeName_10 (n i : Int) (t : ByteArray) (lo hi : Int) (w : World) : Calls Try.prog 30 #[(VVal.mk 10 n i t lo hi).val] w fun e w' => e = .returned (.string ⟨#[112, 114, 111, 99, 101, 100, 117, 114, 101]⟩) ∧ Bel w w' := by
  simp only [VVal.val]
  go_enter Try.func30, Try.ntmps30
  go_wp2
  go_returns
  exact ⟨rfl, (by repeat' (first | exact Bel.refl _ | with_reducible assumption | refine Bel.trans ?_ (by with_reducible assumption) | refine Bel.alloc ?_ _ | refine Bel.drew ?_ | refine Bel.drewN ?_ _ | refine Bel.set ?_ ?_ _ | (simp; done) | (simp; omega)))⟩
set_option maxHeartbeats 1000000 in
theorem specTypeName_11 (n i : Int) (t : ByteArray) (lo hi : Int) (w : World) : Calls Try.prog 30 #[(VVal.mk 11 n i t lo hi).val] w fun e w' => e = .returned (.string ⟨#[99, 111, 45, 101, 120, 112, 114, 101, 115, 115, 105, 111, 110]⟩) ∧ Bel w w' := by
  simp only [VVal.val]
  go_enter Try.func30, Try.ntmps30
  go_wp2
  go_returns
  exact ⟨rfl, (by repeat' (first | exact Bel.refl _ | with_reducible assumption | refine Bel.trans ?_ (by with_reducible assumption) | refine Bel.alloc ?_ _ | refine Bel.drew ?_ | refine Bel.drewN ?_ _ | refine Bel.set ?_ ?_ _ | (simp; done) | (simp; omega)))⟩
set_option maxHeartbeats 1000000 in
theorem specTypeName_12 (n i : Int) (t : ByteArray) (lo hi : Int) (w : World) : Calls Try.prog 30 #[(VVal.mk 12 n i t lo hi).val] w fun e w' => e = .returned (.string ⟨#[112, 97, 116, 116, 101, 114, 110]⟩) ∧ Bel w w' := by
  simp only [VVal.val]
  go_enter Try.func30, Try.ntmps30
  go_wp2
  go_returns
  exact ⟨rfl, (by repeat' (first | exact Bel.refl _ | with_reducible assumption | refine Bel.trans ?_ (by with_reducible assumption) | refine Bel.alloc ?_ _ | refine Bel.drew ?_ | refine Bel.drewN ?_ _ | refine Bel.set ?_ ?_ _ | (simp; done) | (simp; omega)))⟩
set_option maxHeartbeats 1000000 in
theorem specTypeName_13 (n i : Int) (t : ByteArray) (lo hi : Int) (w : World) : Calls Try.prog 30 #[(VVal.mk 13 n i t lo hi).val] w fun e w' => e = .returned (.string ⟨#[118, 97, 114, 105, 97, 98, 108, 101]⟩) ∧ Bel w w' := by
  simp only [VVal.val]
  go_enter Try.func30, Try.ntmps30
  go_wp2
  go_returns
  exact ⟨rfl, (by repeat' (first | exact Bel.refl _ | with_reducible assumption | refine Bel.trans ?_ (by with_reducible assumption) | refine Bel.alloc ?_ _ | refine Bel.drew ?_ | refine Bel.drewN ?_ _ | refine Bel.set ?_ ?_ _ | (simp; done) | (simp; omega)))⟩
set_option maxHeartbeats 1000000 in
theorem specTypeName_14 (n i : Int) (t : ByteArray) (lo hi : Int) (w : World) : Calls Try.prog 30 #[(VVal.mk 14 n i t lo hi).val] w fun e w' => e = .returned (.string ⟨#[118, 97, 114, 105, 97, 98, 108, 101]⟩) ∧ Bel w w' := by
  simp only [VVal.val]
  go_enter Try.func30, Try.ntmps30
  go_wp2
  go_returns
  exact ⟨rfl, (by repeat' (first | exact Bel.refl _ | with_reducible assumption | refine Bel.trans ?_ (by with_reducible assumption) | refine Bel.alloc ?_ _ | refine Bel.drew ?_ | refine Bel.drewN ?_ _ | refine Bel.set ?_ ?_ _ | (simp; done) | (simp; omega)))⟩
set_option maxHeartbeats 1000000 in
theorem specTypeName_15 (n i : Int) (t : ByteArray) (lo hi : Int) (w : World) : Calls Try.prog 30 #[(VVal.mk 15 n i t lo hi).val] w fun e w' => e = .returned (.string ⟨#[118, 97, 114, 105, 97, 98, 108, 101]⟩) ∧ Bel w w' := by
  simp only [VVal.val]
  go_enter Try.func30, Try.ntmps30
  go_wp2
  go_returns
  exact ⟨rfl, (by repeat' (first | exact Bel.refl _ | with_reducible assumption | refine Bel.trans ?_ (by with_reducible assumption) | refine Bel.alloc ?_ _ | refine Bel.drew ?_ | refine Bel.drewN ?_ _ | refine Bel.set ?_ ?_ _ | (simp; done) | (simp; omega)))⟩
set_option maxHeartbeats 1000000 in
theorem specTypeName_16 (n i : Int) (t : ByteArray) (lo hi : Int) (w : World) : Calls Try.prog 30 #[(VVal.mk 16 n i t lo hi).val] w fun e w' => e = .returned (.string ⟨#[118, 97, 114, 105, 97, 98, 108, 101]⟩) ∧ Bel w w' := by
  simp only [VVal.val]
  go_enter Try.func30, Try.ntmps30
  go_wp2
  go_returns
  exact ⟨rfl, (by repeat' (first | exact Bel.refl _ | with_reducible assumption | refine Bel.trans ?_ (by with_reducible assumption) | refine Bel.alloc ?_ _ | refine Bel.drew ?_ | refine Bel.drewN ?_ _ | refine Bel.set ?_ ?_ _ | (simp; done) | (simp; omega)))⟩
set_option maxHeartbeats 1000000 in
theorem specTypeName_17 (n i : Int) (t : ByteArray) (lo hi : Int) (w : World) : Calls Try.prog 30 #[(VVal.mk 17 n i t lo hi).val] w fun e w' => e = .returned (.string ⟨#[118, 97, 114, 105, 97, 98, 108, 101]⟩) ∧ Bel w w' := by
  simp only [VVal.val]
  go_enter Try.func30, Try.ntmps30
  go_wp2
  go_returns
  exact ⟨rfl, (by repeat' (first | exact Bel.refl _ | with_reducible assumption | refine Bel.trans ?_ (by with_reducible assumption) | refine Bel.alloc ?_ _ | refine Bel.drew ?_ | refine Bel.drewN ?_ _ | refine Bel.set ?_ ?_ _ | (simp; done) | (simp; omega)))⟩
set_option maxHeartbeats 1000000 in
theorem specTypeName_18 (n i : Int) (t : ByteArray) (lo hi : Int) (w : World) : Calls Try.prog 30 #[(VVal.mk 18 n i t lo hi).val] w fun e w' => e = .returned (.string ⟨#[118, 97, 114, 105, 97, 98, 108, 101]⟩) ∧ Bel w w' := by
  simp only [VVal.val]
  go_enter Try.func30, Try.ntmps30
  go_wp2
  go_returns
  exact ⟨rfl, (by repeat' (first | exact Bel.refl _ | with_reducible assumption | refine Bel.trans ?_ (by with_reducible assumption) | refine Bel.alloc ?_ _ | refine Bel.drew ?_ | refine Bel.drewN ?_ _ | refine Bel.set ?_ ?_ _ | (simp; done) | (simp; omega)))⟩
set_option maxHeartbeats 1000000 in
theorem specTypeName_19 (n i : Int) (t : ByteArray) (lo hi : Int) (w : World) : Calls Try.prog 30 #[(VVal.mk 19 n i t lo hi).val] w fun e w' => e = .returned (.string ⟨#[102, 114, 97, 109, 101]⟩) ∧ Bel w w' := by
  simp only [VVal.val]
  go_enter Try.func30, Try.ntmps30
  go_wp2
  go_returns
  exact ⟨rfl, (by repeat' (first | exact Bel.refl _ | with_reducible assumption | refine Bel.trans ?_ (by with_reducible assumption) | refine Bel.alloc ?_ _ | refine Bel.drew ?_ | refine Bel.drewN ?_ _ | refine Bel.set ?_ ?_ _ | (simp; done) | (simp; omega)))⟩
set_option maxHeartbeats 1000000 in
theorem specTypeName_20 (n i : Int) (t : ByteArray) (lo hi : Int) (w : World) : Calls Try.prog 30 #[(VVal.mk 20 n i t lo hi).val] w fun e w' => e = .returned (.string ⟨#[115, 99, 97, 110]⟩) ∧ Bel w w' := by
  simp only [VVal.val]
  go_enter Try.func30, Try.ntmps30
  go_wp2
  go_returns
  exact ⟨rfl, (by repeat' (first | exact Bel.refl _ | with_reducible assumption | refine Bel.trans ?_ (by with_reducible assumption) | refine Bel.alloc ?_ _ | refine Bel.drew ?_ | refine Bel.drewN ?_ _ | refine Bel.set ?_ ?_ _ | (simp; done) | (simp; omega)))⟩
set_option maxHeartbeats 1000000 in
theorem specTypeName_21 (k : Int) (h : k < 0) (n i : Int) (t : ByteArray) (lo hi : Int) (w : World) : Calls Try.prog 30 #[(VVal.mk k n i t lo hi).val] w fun e w' => e = .returned (.string ⟨#[]⟩) ∧ Bel w w' := by
  simp only [VVal.val]
  go_enter Try.func30, Try.ntmps30
  go_wp2
  go_returns
  exact ⟨rfl, (by repeat' (first | exact Bel.refl _ | with_reducible assumption | refine Bel.trans ?_ (by with_reducible assumption) | refine Bel.alloc ?_ _ | refine Bel.drew ?_ | refine Bel.drewN ?_ _ | refine Bel.set ?_ ?_ _ | (simp; done) | (simp; omega)))⟩
set_option maxHeartbeats 1000000 in
theorem specTypeName_22 (k : Int) (h : 20 < k) (n i : Int) (t : ByteArray) (lo hi : Int) (w : World) : Calls Try.prog 30 #[(VVal.mk k n i t lo hi).val] w fun e w' => e = .returned (.string ⟨#[]⟩) ∧ Bel w w' := by
  simp only [VVal.val]
  go_enter Try.func30, Try.ntmps30
  go_wp2
  go_returns
  exact ⟨rfl, (by repeat' (first | exact Bel.refl _ | with_reducible assumption | refine Bel.trans ?_ (by with_reducible assumption) | refine Bel.alloc ?_ _ | refine Bel.drew ?_ | refine Bel.drewN ?_ _ | refine Bel.set ?_ ?_ _ | (simp; done) | (simp; omega)))⟩
theorem specTypeName_any (v : VVal) (w : World) : Calls Try.prog 30 #[v.val] w fun e w' => e = .returned (.string (typeName v.k)) ∧ Bel w w' := by
  obtain ⟨k, n, i, t, lo, hi⟩ := v
  show Calls Try.prog _ _ _ fun e w' => e = .returned (.string (typeName k)) ∧ Bel w w'
  rcases kind_cases k with rfl | rfl | rfl | rfl | rfl | rfl | rfl | rfl | rfl | rfl | rfl | rfl | rfl | rfl | rfl | rfl | rfl | rfl | rfl | rfl | rfl | h | h
  · exact specTypeName_0 n i t lo hi w
  · exact specTypeName_1 n i t lo hi w
  · exact specTypeName_2 n i t lo hi w
  · exact specTypeName_3 n i t lo hi w
  · exact specTypeName_4 n i t lo hi w
  · exact specTypeName_5 n i t lo hi w
  · exact specTypeName_6 n i t lo hi w
  · exact specTypeName_7 n i t lo hi w
  · exact specTypeName_8 n i t lo hi w
  · exact specTypeName_9 n i t lo hi w
  · exact specTypeName_10 n i t lo hi w
  · exact specTypeName_11 n i t lo hi w
  · exact specTypeName_12 n i t lo hi w
  · exact specTypeName_13 n i t lo hi w
  · exact specTypeName_14 n i t lo hi w
  · exact specTypeName_15 n i t lo hi w
  · exact specTypeName_16 n i t lo hi w
  · exact specTypeName_17 n i t lo hi w
  · exact specTypeName_18 n i t lo hi w
  · exact specTypeName_19 n i t lo hi w
  · exact specTypeName_20 n i t lo hi w
  · have e : typeName k = ⟨#[]⟩ := by unfold typeName; rw [if_neg (by omega : ¬ k = 0), if_neg (by omega : ¬ k = 1), if_neg (by omega : ¬ k = 2), if_neg (by omega : ¬ k = 3), if_neg (by omega : ¬ k = 4), if_neg (by omega : ¬ k = 5), if_neg (by omega : ¬ k = 6), if_neg (by omega : ¬ k = 7), if_neg (by omega : ¬ k = 8), if_neg (by omega : ¬ k = 9), if_neg (by omega : ¬ k = 10), if_neg (by omega : ¬ k = 11), if_neg (by omega : ¬ k = 12), if_neg (by omega : ¬ k = 13), if_neg (by omega : ¬ k = 14), if_neg (by omega : ¬ k = 15), if_neg (by omega : ¬ k = 16), if_neg (by omega : ¬ k = 17), if_neg (by omega : ¬ k = 18), if_neg (by omega : ¬ k = 19), if_neg (by omega : ¬ k = 20)]
    rw [e]
    exact specTypeName_21 k h n i t lo hi w
  · have e : typeName k = ⟨#[]⟩ := by unfold typeName; rw [if_neg (by omega : ¬ k = 0), if_neg (by omega : ¬ k = 1), if_neg (by omega : ¬ k = 2), if_neg (by omega : ¬ k = 3), if_neg (by omega : ¬ k = 4), if_neg (by omega : ¬ k = 5), if_neg (by omega : ¬ k = 6), if_neg (by omega : ¬ k = 7), if_neg (by omega : ¬ k = 8), if_neg (by omega : ¬ k = 9), if_neg (by omega : ¬ k = 10), if_neg (by omega : ¬ k = 11), if_neg (by omega : ¬ k = 12), if_neg (by omega : ¬ k = 13), if_neg (by omega : ¬ k = 14), if_neg (by omega : ¬ k = 15), if_neg (by omega : ¬ k = 16), if_neg (by omega : ¬ k = 17), if_neg (by omega : ¬ k = 18), if_neg (by omega : ¬ k = 19), if_neg (by omega : ¬ k = 20)]
    rw [e]
    exact specTypeName_22 k h n i t lo hi w
set_option maxHeartbeats 1000000 in
theorem implTypeName_0 (n i : Int) (t : ByteArray) (lo hi : Int) (w : World) : Calls Try.prog 31 #[(VVal.mk 0 n i t lo hi).val] w fun e w' => e = .returned (.string ⟨#[110, 117, 108, 108]⟩) ∧ Bel w w' := by
  simp only [VVal.val]
  have hmm := @run_makeMap Try.prog
  go_enter Try.func31, Try.ntmps31
  go_wp2
  go_returns
  exact ⟨rfl, (by repeat' (first | exact Bel.refl _ | with_reducible assumption | refine Bel.trans ?_ (by with_reducible assumption) | refine Bel.alloc ?_ _ | refine Bel.drew ?_ | refine Bel.drewN ?_ _ | refine Bel.set ?_ ?_ _ | (simp; done) | (simp; omega)))⟩
set_option maxHeartbeats 1000000 in
theorem implTypeName_1 (n i : Int) (t : ByteArray) (lo hi : Int) (w : World) : Calls Try.prog 31 #[(VVal.mk 1 n i t lo hi).val] w fun e w' => e = .returned (.string ⟨#[105, 110, 116, 101, 103, 101, 114]⟩) ∧ Bel w w' := by
  simp only [VVal.val]
  have hmm := @run_makeMap Try.prog
  go_enter Try.func31, Try.ntmps31
  go_wp2
  go_returns
  exact ⟨rfl, (by repeat' (first | exact Bel.refl _ | with_reducible assumption | refine Bel.trans ?_ (by with_reducible assumption) | refine Bel.alloc ?_ _ | refine Bel.drew ?_ | refine Bel.drewN ?_ _ | refine Bel.set ?_ ?_ _ | (simp; done) | (simp; omega)))⟩
set_option maxHeartbeats 1000000 in
theorem implTypeName_2 (n i : Int) (t : ByteArray) (lo hi : Int) (w : World) : Calls Try.prog 31 #[(VVal.mk 2 n i t lo hi).val] w fun e w' => e = .returned (.string ⟨#[115, 116, 114, 105, 110, 103]⟩) ∧ Bel w w' := by
  simp only [VVal.val]
  have hmm := @run_makeMap Try.prog
  go_enter Try.func31, Try.ntmps31
  go_wp2
  go_returns
  exact ⟨rfl, (by repeat' (first | exact Bel.refl _ | with_reducible assumption | refine Bel.trans ?_ (by with_reducible assumption) | refine Bel.alloc ?_ _ | refine Bel.drew ?_ | refine Bel.drewN ?_ _ | refine Bel.set ?_ ?_ _ | (simp; done) | (simp; omega)))⟩
set_option maxHeartbeats 1000000 in
theorem implTypeName_3 (n i : Int) (t : ByteArray) (lo hi : Int) (w : World) : Calls Try.prog 31 #[(VVal.mk 3 n i t lo hi).val] w fun e w' => e = .returned (.string ⟨#[99, 115, 101, 116]⟩) ∧ Bel w w' := by
  simp only [VVal.val]
  have hmm := @run_makeMap Try.prog
  go_enter Try.func31, Try.ntmps31
  go_wp2
  go_returns
  exact ⟨rfl, (by repeat' (first | exact Bel.refl _ | with_reducible assumption | refine Bel.trans ?_ (by with_reducible assumption) | refine Bel.alloc ?_ _ | refine Bel.drew ?_ | refine Bel.drewN ?_ _ | refine Bel.set ?_ ?_ _ | (simp; done) | (simp; omega)))⟩
set_option maxHeartbeats 1000000 in
theorem implTypeName_4 (n i : Int) (t : ByteArray) (lo hi : Int) (w : World) : Calls Try.prog 31 #[(VVal.mk 4 n i t lo hi).val] w fun e w' => e = .returned (.string ⟨#[108, 105, 115, 116]⟩) ∧ Bel w w' := by
  simp only [VVal.val]
  have hmm := @run_makeMap Try.prog
  go_enter Try.func31, Try.ntmps31
  go_wp2
  go_returns
  exact ⟨rfl, (by repeat' (first | exact Bel.refl _ | with_reducible assumption | refine Bel.trans ?_ (by with_reducible assumption) | refine Bel.alloc ?_ _ | refine Bel.drew ?_ | refine Bel.drewN ?_ _ | refine Bel.set ?_ ?_ _ | (simp; done) | (simp; omega)))⟩
set_option maxHeartbeats 1000000 in
theorem implTypeName_5 (n i : Int) (t : ByteArray) (lo hi : Int) (w : World) : Calls Try.prog 31 #[(VVal.mk 5 n i t lo hi).val] w fun e w' => e = .returned (.string ⟨#[116, 97, 98, 108, 101]⟩) ∧ Bel w w' := by
  simp only [VVal.val]
  have hmm := @run_makeMap Try.prog
  go_enter Try.func31, Try.ntmps31
  go_wp2
  go_returns
  exact ⟨rfl, (by repeat' (first | exact Bel.refl _ | with_reducible assumption | refine Bel.trans ?_ (by with_reducible assumption) | refine Bel.alloc ?_ _ | refine Bel.drew ?_ | refine Bel.drewN ?_ _ | refine Bel.set ?_ ?_ _ | (simp; done) | (simp; omega)))⟩
set_option maxHeartbeats 1000000 in
theorem implTypeName_6 (n i : Int) (t : ByteArray) (lo hi : Int) (w : World) : Calls Try.prog 31 #[(VVal.mk 6 n i t lo hi).val] w fun e w' => e = .returned (.string ⟨#[115, 101, 116]⟩) ∧ Bel w w' := by
  simp only [VVal.val]
  have hmm := @run_makeMap Try.prog
  go_enter Try.func31, Try.ntmps31
  go_wp2
  go_returns
  exact ⟨rfl, (by repeat' (first | exact Bel.refl _ | with_reducible assumption | refine Bel.trans ?_ (by with_reducible assumption) | refine Bel.alloc ?_ _ | refine Bel.drew ?_ | refine Bel.drewN ?_ _ | refine Bel.set ?_ ?_ _ | (simp; done) | (simp; omega)))⟩
set_option maxHeartbeats 1000000 in
theorem implTypeName_7 (n i : Int) (t : ByteArray) (lo hi : Int) (w : World) : Calls Try.prog 31 #[(VVal.mk 7 n i t lo hi).val] w fun e w' => e = .returned (.string ⟨#[114, 101, 99, 111, 114, 100]⟩) ∧ Bel w w' := by
  simp only [VVal.val]
  have hmm := @run_makeMap Try.prog
  go_enter Try.func31, Try.ntmps31
  go_wp2
  go_returns
  exact ⟨rfl, (by repeat' (first | exact Bel.refl _ | with_reducible assumption | refine Bel.trans ?_ (by with_reducible assumption) | refine Bel.alloc ?_ _ | refine Bel.drew ?_ | refine Bel.drewN ?_ _ | refine Bel.set ?_ ?_ _ | (simp; done) | (simp; omega)))⟩
set_option maxHeartbeats 1000000 in
theorem implTypeName_8 (n i : Int) (t : ByteArray) (lo hi : Int) (w : World) : Calls Try.prog 31 #[(VVal.mk 8 n i t lo hi).val] w fun e w' => e = .returned (.string ⟨#[112, 114, 111, 99, 101, 100, 117, 114, 101]⟩) ∧ Bel w w' := by
  simp only [VVal.val]
  have hmm := @run_makeMap Try.prog
  go_enter Try.func31, Try.ntmps31
  go_wp2
  go_returns
  exact ⟨rfl, (by repeat' (first | exact Bel.refl _ | with_reducible assumption | refine Bel.trans ?_ (by with_reducible assumption) | refine Bel.alloc ?_ _ | refine Bel.drew ?_ | refine Bel.drewN ?_ _ | refine Bel.set ?_ ?_ _ | (simp; done) | (simp; omega)))⟩
set_option maxHeartbeats 1000000 in
theorem implTypeName_9 (n i : Int) (t : ByteArray) (lo hi : Int) (w : World) : Calls Try.prog 31 #[(VVal.mk 9 n i t lo hi).val] w fun e w' => e = .returned (.string ⟨#[112, 114, 111, 99, 101, 100, 117, 114, 101]⟩) ∧ Bel w w' := by
  simp only [VVal.val]
  have hmm := @run_makeMap Try.prog
  go_enter Try.func31, Try.ntmps31
  go_wp2
  go_returns
  exact ⟨rfl, (by repeat' (first | exact Bel.refl _ | with_reducible assumption | refine Bel.trans ?_ (by with_reducible assumption) | refine Bel.alloc ?_ _ | refine Bel.drew ?_ | refine Bel.drewN ?_ _ | refine Bel.set ?_ ?_ _ | (simp; done) | (simp; omega)))⟩
set_option maxHeartbeats 1000000 in
theorem implTypeName_10 (n i : Int) (t : ByteArray) (lo hi : Int) (w : World) : Calls Try.prog 31 #[(VVal.mk 10 n i t lo hi).val] w fun e w' => e = .returned (.string ⟨#[112, 114, 111, 99, 101, 100, 117, 114, 101]⟩) ∧ Bel w w' := by
  simp only [VVal.val]
  have hmm := @run_makeMap Try.prog
  go_enter Try.func31, Try.ntmps31
  go_wp2
  go_returns
  exact ⟨rfl, (by repeat' (first | exact Bel.refl _ | with_reducible assumption | refine Bel.trans ?_ (by with_reducible assumption) | refine Bel.alloc ?_ _ | refine Bel.drew ?_ | refine Bel.drewN ?_ _ | refine Bel.set ?_ ?_ _ | (simp; done) | (simp; omega)))⟩
set_option maxHeartbeats 1000000 in
theorem implTypeName_11 (n i : Int) (t : ByteArray) (lo hi : Int) (w : World) : Calls Try.prog 31 #[(VVal.mk 11 n i t lo hi).val] w fun e w' => e = .returned (.string ⟨#[99, 111, 45, 101, 120, 112, 114, 101, 115, 115, 105, 111, 110]⟩) ∧ Bel w w' := by
  simp only [VVal.val]
  have hmm := @run_makeMap Try.prog
  go_enter Try.func31, Try.ntmps31
  go_wp2
  go_returns
  exact ⟨rfl, (by repeat' (first | exact Bel.refl _ | with_reducible assumption | refine Bel.trans ?_ (by with_reducible assumption) | refine Bel.alloc ?_ _ | refine Bel.drew ?_ | refine Bel.drewN ?_ _ | refine Bel.set ?_ ?_ _ | (simp; done) | (simp; omega)))⟩
set_option maxHeartbeats 1000000 in
theorem implTypeName_12 (n i : Int) (t : ByteArray) (lo hi : Int) (w : World) : Calls Try.prog 31 #[(VVal.mk 12 n i t lo hi).val] w fun e w' => e = .returned (.string ⟨#[112, 97, 116, 116, 101, 114, 110]⟩) ∧ Bel w w' := by
  simp only [VVal.val]
  have hmm := @run_makeMap Try.prog
  go_enter Try.func31, Try.ntmps31
  go_wp2
  go_returns
  exact ⟨rfl, (by repeat' (first | exact Bel.refl _ | with_reducible assumption | refine Bel.trans ?_ (by with_reducible assumption) | refine Bel.alloc ?_ _ | refine Bel.drew ?_ | refine Bel.drewN ?_ _ | refine Bel.set ?_ ?_ _ | (simp; done) | (simp; omega)))⟩
set_option maxHeartbeats 1000000 in
theorem implTypeName_13 (n i : Int) (t : ByteArray) (lo hi : Int) (w : World) : Calls Try.prog 31 #[(VVal.mk 13 n i t lo hi).val] w fun e w' => e = .returned (.string ⟨#[118, 97, 114, 105, 97, 98, 108, 101]⟩) ∧ Bel w w' := by
  simp only [VVal.val]
  have hmm := @run_makeMap Try.prog
  go_enter Try.func31, Try.ntmps31
  go_wp2
  go_returns
  exact ⟨rfl, (by repeat' (first | exact Bel.refl _ | with_reducible assumption | refine Bel.trans ?_ (by with_reducible assumption) | refine Bel.alloc ?_ _ | refine Bel.drew ?_ | refine Bel.drewN ?_ _ | refine Bel.set ?_ ?_ _ | (simp; done) | (simp; omega)))⟩
set_option maxHeartbeats 1000000 in
theorem implTypeName_14 (n i : Int) (t : ByteArray) (lo hi : Int) (w : World) : Calls Try.prog 31 #[(VVal.mk 14 n i t lo hi).val] w fun e w' => e = .returned (.string ⟨#[118, 97, 114, 105, 97, 98, 108, 101]⟩) ∧ Bel w w' := by
  simp only [VVal.val]
  have hmm := @run_makeMap Try.prog
  go_enter Try.func31, Try.ntmps31
  go_wp2
  go_returns
  exact ⟨rfl, (by repeat' (first | exact Bel.refl _ | with_reducible assumption | refine Bel.trans ?_ (by with_reducible assumption) | refine Bel.alloc ?_ _ | refine Bel.drew ?_ | refine Bel.drewN ?_ _ | refine Bel.set ?_ ?_ _ | (simp; done) | (simp; omega)))⟩
set_option maxHeartbeats 1000000 in
theorem implTypeName_15 (n i : Int) (t : ByteArray) (lo hi : Int) (w : World) : Calls Try.prog 31 #[(VVal.mk 15 n i t lo hi).val] w fun e w' => e = .returned (.string ⟨#[118, 97, 114, 105, 97, 98, 108, 101]⟩) ∧ Bel w w' := by
  simp only [VVal.val]
  have hmm := @run_makeMap Try.prog
  go_enter Try.func31, Try.ntmps31
  go_wp2
  go_returns
  exact ⟨rfl, (by repeat' (first | exact Bel.refl _ | with_reducible assumption | refine Bel.trans ?_ (by with_reducible assumption) | refine Bel.alloc ?_ _ | refine Bel.drew ?_ | refine Bel.drewN ?_ _ | refine Bel.set ?_ ?_ _ | (simp; done) | (simp; omega)))⟩
set_option maxHeartbeats 1000000 in
theorem implTypeName_16 (n i : Int) (t : ByteArray) (lo hi : Int) (w : World) : Calls Try.prog 31 #[(VVal.mk 16 n i t lo hi).val] w fun e w' => e = .returned (.string ⟨#[118, 97, 114, 105, 97, 98, 108, 101]⟩) ∧ Bel w w' := by
  simp only [VVal.val]
  have hmm := @run_makeMap Try.prog
  go_enter Try.func31, Try.ntmps31
  go_wp2
  go_returns
  exact ⟨rfl, (by repeat' (first | exact Bel.refl _ | with_reducible assumption | refine Bel.trans ?_ (by with_reducible assumption) | refine Bel.alloc ?_ _ | refine Bel.drew ?_ | refine Bel.drewN ?_ _ | refine Bel.set ?_ ?_ _ | (simp; done) | (simp; omega)))⟩
set_option maxHeartbeats 1000000 in
theorem implTypeName_17 (n i : Int) (t : ByteArray) (lo hi : Int) (w : World) : Calls Try.prog 31 #[(VVal.mk 17 n i t lo hi).val] w fun e w' => e = .returned (.string ⟨#[118, 97, 114, 105, 97, 98, 108, 101]⟩) ∧ Bel w w' := by
  simp only [VVal.val]
  have hmm := @run_makeMap Try.prog
  go_enter Try.func31, Try.ntmps31
  go_wp2
  go_returns
  exact ⟨rfl, (by repeat' (first | exact Bel.refl _ | with_reducible assumption | refine Bel.trans ?_ (by with_reducible assumption) | refine Bel.alloc ?_ _ | refine Bel.drew ?_ | refine Bel.drewN ?_ _ | refine Bel.set ?_ ?_ _ | (simp; done) | (simp; omega)))⟩
set_option maxHeartbeats 1000000 in
theorem implTypeName_18 (n i : Int) (t : ByteArray) (lo hi : Int) (w : World) : Calls Try.prog 31 #[(VVal.mk 18 n i t lo hi).val] w fun e w' => e = .returned (.string ⟨#[118, 97, 114, 105, 97, 98, 108, 101]⟩) ∧ Bel w w' := by
  simp only [VVal.val]
  have hmm := @run_makeMap Try.prog
  go_enter Try.func31, Try.ntmps31
  go_wp2
  go_returns
  exact ⟨rfl, (by repeat' (first | exact Bel.refl _ | with_reducible assumption | refine Bel.trans ?_ (by with_reducible assumption) | refine Bel.alloc ?_ _ | refine Bel.drew ?_ | refine Bel.drewN ?_ _ | refine Bel.set ?_ ?_ _ | (simp; done) | (simp; omega)))⟩
set_option maxHeartbeats 1000000 in
theorem implTypeName_19 (n i : Int) (t : ByteArray) (lo hi : Int) (w : World) : Calls Try.prog 31 #[(VVal.mk 19 n i t lo hi).val] w fun e w' => e = .returned (.string ⟨#[102, 114, 97, 109, 101]⟩) ∧ Bel w w' := by
  simp only [VVal.val]
  have hmm := @run_makeMap Try.prog
  go_enter Try.func31, Try.ntmps31
  go_wp2
  go_returns
  exact ⟨rfl, (by repeat' (first | exact Bel.refl _ | with_reducible assumption | refine Bel.trans ?_ (by with_reducible assumption) | refine Bel.alloc ?_ _ | refine Bel.drew ?_ | refine Bel.drewN ?_ _ | refine Bel.set ?_ ?_ _ | (simp; done) | (simp; omega)))⟩
set_option maxHeartbeats 1000000 in
theorem implTypeName_20 (n i : Int) (t : ByteArray) (lo hi : Int) (w : World) : Calls Try.prog 31 #[(VVal.mk 20 n i t lo hi).val] w fun e w' => e = .returned (.string ⟨#[115, 99, 97, 110]⟩) ∧ Bel w w' := by
  simp only [VVal.val]
  have hmm := @run_makeMap Try.prog
  go_enter Try.func31, Try.ntmps31
  go_wp2
  go_returns
  exact ⟨rfl, (by repeat' (first | exact Bel.refl _ | with_reducible assumption | refine Bel.trans ?_ (by with_reducible assumption) | refine Bel.alloc ?_ _ | refine Bel.drew ?_ | refine Bel.drewN ?_ _ | refine Bel.set ?_ ?_ _ | (simp; done) | (simp; omega)))⟩
set_option maxHeartbeats 1000000 in
theorem implTypeName_21 (k : Int) (h : k < 0) (n i : Int) (t : ByteArray) (lo hi : Int) (w : World) : Calls Try.prog 31 #[(VVal.mk k n i t lo hi).val] w fun e w' => e = .returned (.string ⟨#[]⟩) ∧ Bel w w' := by
  simp only [VVal.val]
  have hmm := @run_makeMap Try.prog
  go_enter Try.func31, Try.ntmps31
  go_wp2
  go_returns
  exact ⟨rfl, (by repeat' (first | exact Bel.refl _ | with_reducible assumption | refine Bel.trans ?_ (by with_reducible assumption) | refine Bel.alloc ?_ _ | refine Bel.drew ?_ | refine Bel.drewN ?_ _ | refine Bel.set ?_ ?_ _ | (simp; done) | (simp; omega)))⟩
set_option maxHeartbeats 1000000 in
theorem implTypeName_22 (k : Int) (h : 20 < k) (n i : Int) (t : ByteArray) (lo hi : Int) (w : World) : Calls Try.prog 31 #[(VVal.mk k n i t lo hi).val] w fun e w' => e = .returned (.string ⟨#[]⟩) ∧ Bel w w' := by
  simp only [VVal.val]
  have hmm := @run_makeMap Try.prog
  go_enter Try.func31, Try.ntmps31
  go_wp2
  go_returns
  exact ⟨rfl, (by repeat' (first | exact Bel.refl _ | with_reducible assumption | refine Bel.trans ?_ (by with_reducible assumption) | refine Bel.alloc ?_ _ | refine Bel.drew ?_ | refine Bel.drewN ?_ _ | refine Bel.set ?_ ?_ _ | (simp; done) | (simp; omega)))⟩
theorem implTypeName_any (v : VVal) (w : World) : Calls Try.prog 31 #[v.val] w fun e w' => e = .returned (.string (typeName v.k)) ∧ Bel w w' := by
  obtain ⟨k, n, i, t, lo, hi⟩ := v
  show Calls Try.prog _ _ _ fun e w' => e = .returned (.string (typeName k)) ∧ Bel w w'
  rcases kind_cases k with rfl | rfl | rfl | rfl | rfl | rfl | rfl | rfl | rfl | rfl | rfl | rfl | rfl | rfl | rfl | rfl | rfl | rfl | rfl | rfl | rfl | h | h
  · exact implTypeName_0 n i t lo hi w
  · exact implTypeName_1 n i t lo hi w
  · exact implTypeName_2 n i t lo hi w
  · exact implTypeName_3 n i t lo hi w
  · exact implTypeName_4 n i t lo hi w
  · exact implTypeName_5 n i t lo hi w
  · exact implTypeName_6 n i t lo hi w
  · exact implTypeName_7 n i t lo hi w
  · exact implTypeName_8 n i t lo hi w
  · exact implTypeName_9 n i t lo hi w
  · exact implTypeName_10 n i t lo hi w
  · exact implTypeName_11 n i t lo hi w
  · exact implTypeName_12 n i t lo hi w
  · exact implTypeName_13 n i t lo hi w
  · exact implTypeName_14 n i t lo hi w
  · exact implTypeName_15 n i t lo hi w
  · exact implTypeName_16 n i t lo hi w
  · exact implTypeName_17 n i t lo hi w
  · exact implTypeName_18 n i t lo hi w
  · exact implTypeName_19 n i t lo hi w
  · exact implTypeName_20 n i t lo hi w
  · have e : typeName k = ⟨#[]⟩ := by unfold typeName; rw [if_neg (by omega : ¬ k = 0), if_neg (by omega : ¬ k = 1), if_neg (by omega : ¬ k = 2), if_neg (by omega : ¬ k = 3), if_neg (by omega : ¬ k = 4), if_neg (by omega : ¬ k = 5), if_neg (by omega : ¬ k = 6), if_neg (by omega : ¬ k = 7), if_neg (by omega : ¬ k = 8), if_neg (by omega : ¬ k = 9), if_neg (by omega : ¬ k = 10), if_neg (by omega : ¬ k = 11), if_neg (by omega : ¬ k = 12), if_neg (by omega : ¬ k = 13), if_neg (by omega : ¬ k = 14), if_neg (by omega : ¬ k = 15), if_neg (by omega : ¬ k = 16), if_neg (by omega : ¬ k = 17), if_neg (by omega : ¬ k = 18), if_neg (by omega : ¬ k = 19), if_neg (by omega : ¬ k = 20)]
    rw [e]
    exact implTypeName_21 k h n i t lo hi w
  · have e : typeName k = ⟨#[]⟩ := by unfold typeName; rw [if_neg (by omega : ¬ k = 0), if_neg (by omega : ¬ k = 1), if_neg (by omega : ¬ k = 2), if_neg (by omega : ¬ k = 3), if_neg (by omega : ¬ k = 4), if_neg (by omega : ¬ k = 5), if_neg (by omega : ¬ k = 6), if_neg (by omega : ¬ k = 7), if_neg (by omega : ¬ k = 8), if_neg (by omega : ¬ k = 9), if_neg (by omega : ¬ k = 10), if_neg (by omega : ¬ k = 11), if_neg (by omega : ¬ k = 12), if_neg (by omega : ¬ k = 13), if_neg (by omega : ¬ k = 14), if_neg (by omega : ¬ k = 15), if_neg (by omega : ¬ k = 16), if_neg (by omega : ¬ k = 17), if_neg (by omega : ¬ k = 18), if_neg (by omega : ¬ k = 19), if_neg (by omega : ¬ k = 20)]
    rw [e]
    exact implTypeName_22 k h n i t lo hi w
end Go.Proofs.Ytficlopcolglnaa
