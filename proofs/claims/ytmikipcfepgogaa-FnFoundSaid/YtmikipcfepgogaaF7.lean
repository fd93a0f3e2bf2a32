/- Draws: a set of characters. -/
import Derived.Test.YtmikipcfepgogaaF6
import Derived.Test.YtmikipcfepgogaaE13
namespace Go.Proofs.Ytmikipcfepgogaa
set_option linter.unusedVariables false
set_option linter.unusedSimpArgs false
set_option maxRecDepth 100000
open Go.RowKit

theorem inI_wrap (n : Int) : InI (IntKind.i64.wrap n) := by unfold InI; rw [IntKind.wrap_i64]; omega
theorem addLo_in {lo : Int} (b : Nat) (h : InI lo) : InI (addLo lo b) := by unfold addLo; split; exact orB_in _ _; exact h
theorem addHi_in {hi : Int} (b : Nat) (h : InI hi) : InI (addHi hi b) := by unfold addHi; split; exact h; exact orB_in _ _
theorem nsF_in (s : ByteArray) : ∀ (f i : Nat) (lo hi : Int) (p : Int × Int), InI lo → InI hi → nsF s f i lo hi = some p → InI p.1 ∧ InI p.2
  | 0, i, lo, hi, p, h1, h2, h => by
    simp only [nsF, Option.some.injEq] at h
    subst h; exact ⟨h1, h2⟩
  | f + 1, i, lo, hi, p, h1, h2, h => by
    rw [nsF] at h
    split at h
    · exact nsF_in s f (i + 1) _ _ p (addLo_in _ h1) (addHi_in _ h2) h
    · cases h
theorem ns_in (s : ByteArray) : InI (nsLo s) ∧ InI (nsHi s) := by
  unfold nsLo nsHi
  have h0 : InI 0 := by unfold InI; omega
  cases h : ns s 0 0 0 with
  | none => exact ⟨h0, h0⟩
  | some p => exact nsF_in s _ 0 0 0 p h0 h0 h
/-- Some set and some truth value come back. -/
def SomeSet (w : World) (e : Ending) (w' : World) : Prop := ∃ (lo hi : Int) (b : Bool), InI lo ∧ InI hi ∧ e = .returned (.tuple #[.agg #[.int .i64 lo, .int .i64 hi], .bool b]) ∧ Bel w w'
set_option maxHeartbeats 1000000 in
theorem specRange_some (f u : Nat) (w : World) (hf : f < 256) (hu : u < 256) (h1 : f ≤ u) (h2 : u ≤ 127) :
    Calls Try.prog 116 #[.int .u8 f, .int .u8 u] w (SomeSet w) := by
  have w8 : ∀ k : Nat, k ≤ u → IntKind.u8.wrap (k : Int) = k := fun k hk => by rw [IntKind.wrap_u8]; omega
  have W8 := hide w8
  clear w8
  have d1 : decide (u < f) = false := by simp; omega
  have d2 : decide ((127 : Int) < (u : Int)) = false := by simp; omega
  have d3 : ¬ u < f := by omega
  go_enter Try.func116, Try.ntmps116
  go_wp2_with (fail)
  go_loopw [7] (fun i wr => ∃ (k : Nat) (lo hi : Int), i = .int .i64 k ∧ k ≤ u + 1 ∧ InI lo ∧ InI hi ∧ Box2 wr w.heap.size 0 0 ∧ Box2 wr (w.heap.size + 1) lo hi ∧ Bel w wr) (fun i _ => u + 1 - (intOf i).toNat)
  case atStart => exact ⟨f, 0, 0, rfl, by omega, by unfold InI; omega, by unfold InI; omega, ⟨by simp, by simp, by simp, by simp, by simp; omega⟩, ⟨by simp, by simp, by simp, by simp, by simp⟩, (by repeat' (first | with_reducible exact Bel.refl _ | with_reducible assumption | with_reducible refine Bel.set ?_ ?_ _ | with_reducible refine Bel.alloc ?_ _ | with_reducible refine Bel.drew ?_ | with_reducible refine Bel.drewN ?_ _ | with_reducible refine Bel.trans ?_ (by with_reducible assumption) | (simp; done) | (simp; omega) | refine Bel.alloc ?_ _ | refine Bel.drew ?_ | refine Bel.drewN ?_ _ | refine Bel.set ?_ ?_ _))⟩
  case round =>
    obtain ⟨k, lo, hi, rfl, hk, hlo, hhi, R, C, hbw⟩ := hrel
    have hlo' := hide hlo
    have hhi' := hide hhi
    clear hlo hhi
    have R' := R
    have C' := C
    obtain ⟨r0, r1, r2, r3, r4⟩ := R'
    obtain ⟨c0, c1, c2, c3, c4⟩ := C'
    by_cases q : k ≤ u
    · have hw := W8.out k q
      have hd : decide ((k : Int) ≤ (u : Int)) = true := by simp; omega
      go_wp2_with (go_at_call 123; refine (specAdd_any lo hi k _ (by omega)).mono ?_; rintro e w3 ⟨rfl, hb3⟩; have R3 := R.on hb3; have C3 := C.on hb3; obtain ⟨c0, c1, c2, c3, c4⟩ := C3)
      have R4 := R3.apart (b' := w.heap.size + 1) (by omega) (.int .i64 (addLo lo k)) (.int .i64 (addHi hi k))
      have C4 := Box2.put (⟨c0, c1, c2, c3, c4⟩ : Box2 w3 (w.heap.size + 1) lo hi) (addLo lo k) (addHi hi k)
      exact ⟨⟨k + 1, _, _, rfl, by omega, addLo_in _ hlo'.out, addHi_in _ hhi'.out, R4, C4, (by repeat' (first | with_reducible exact Bel.refl _ | with_reducible assumption | with_reducible refine Bel.set ?_ ?_ _ | with_reducible refine Bel.alloc ?_ _ | with_reducible refine Bel.drew ?_ | with_reducible refine Bel.drewN ?_ _ | with_reducible refine Bel.trans ?_ (by with_reducible assumption) | (simp; done) | (simp; omega) | refine Bel.alloc ?_ _ | refine Bel.drew ?_ | refine Bel.drewN ?_ _ | refine Bel.set ?_ ?_ _))⟩, by simp only [intOf]; omega⟩
    · have hd : decide ((k : Int) ≤ (u : Int)) = false := by simp; omega
      go_wp2_with (fail)
      have D := R.put lo hi
      obtain ⟨d0, d1, d2, d3, d4⟩ := D
      exact bodyPost_ret (v := .tuple #[.agg #[.int .i64 lo, .int .i64 hi], .bool true]) (by simp [results, Try.results116, d0, d1, go_sem]; try rfl) rfl ⟨lo, hi, true, hlo'.out, hhi'.out, rfl, (by repeat' (first | with_reducible exact Bel.refl _ | with_reducible assumption | with_reducible refine Bel.set ?_ ?_ _ | with_reducible refine Bel.alloc ?_ _ | with_reducible refine Bel.drew ?_ | with_reducible refine Bel.drewN ?_ _ | with_reducible refine Bel.trans ?_ (by with_reducible assumption) | (simp; done) | (simp; omega) | refine Bel.alloc ?_ _ | refine Bel.drew ?_ | refine Bel.drewN ?_ _ | refine Bel.set ?_ ?_ _))⟩

end Go.Proofs.Ytmikipcfepgogaa
