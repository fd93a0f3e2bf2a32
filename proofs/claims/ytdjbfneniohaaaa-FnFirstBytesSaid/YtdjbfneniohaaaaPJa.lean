/- The state of an evaluation in the program: a step; captures joined. -/
import Derived.Test.YtdjbfneniohaaaaPJ4
import Derived.Test.YtdjbfneniohaaaaPJ2
import Derived.Deep.RegionHeld3
import Derived.Deep.Cut
import Derived.OwnWalk
namespace Go.Proofs.Ytdjbfneniohaaaa
set_option linter.unusedVariables false
set_option linter.unusedSimpArgs false
set_option maxRecDepth 100000
open Go.RowKit
def StI (w : World) (M : Nat) (A : Option Addr) (n c : Nat) (s : ByteArray) (f : Int) : Prop :=
 M < w.heap.size ∧ (∀ o, w.frozen? ⟨M, o, none⟩ = false) ∧ w.cell? ⟨M, 0, none⟩ = some (.slice A n c) ∧ w.cell? ⟨M, 1, none⟩ = some (.string s) ∧ w.cell? ⟨M, 2, none⟩ = some (.int .i64 (3000 - f)) ∧ w.cell? ⟨M, 3, none⟩ = some (.bool (decide (f < 0)))
theorem StI.same {w w' : World} {M : Nat} {A : Option Addr} {n c : Nat} {s : ByteArray} {f : Int} (h : StI w M A n c s f) (hs : w.heap.size ≤ w'.heap.size) (hb : SameB w w' M) : StI w' M A n c s f :=
 ⟨Nat.lt_of_lt_of_le h.1 hs, fun o => (hb.2 o).trans (h.2.1 o), (hb.1 0).trans h.2.2.1, (hb.1 1).trans h.2.2.2.1, (hb.1 2).trans h.2.2.2.2.1, (hb.1 3).trans h.2.2.2.2.2⟩
theorem StI.bel {w w' : World} {M : Nat} {A : Option Addr} {n c : Nat} {s : ByteArray} {f : Int} (h : StI w M A n c s f) (hb : Bel w w') : StI w' M A n c s f := h.same hb.size (hb.same h.1)
theorem StI.offS {S : Nat → Prop} {w w' : World} {M : Nat} {A : Option Addr} {n c : Nat} {s : ByteArray} {f : Int} (h : StI w M A n c s f) (hb : OffS S w w') (hS : S M) : StI w' M A n c s f := h.same hb.size (hb.same M hS h.1)
def StepPost (w : World) (M : Nat) (A : Option Addr) (n c : Nat) (s : ByteArray) (f : Int) (e : Ending) (w' : World) : Prop :=
 e = .returned (.bool (decide (0 < f))) ∧ StI w' M A n c s (f - 1) ∧ OffS (fun b => b ≠ M) w w'
set_option maxHeartbeats 2000000 in
theorem step_any (w : World) (M : Nat) (A : Option Addr) (n c : Nat) (s : ByteArray) (f : Int) (h : StI w M A n c s f) (h1 : -1000000000 ≤ f) (h2 : f ≤ 3000) : Calls Try.prog 50 #[.pointer (some ⟨M, 0, none⟩)] w (StepPost w M A n c s f) := by
 obtain ⟨hM, hf, m0, m1, m2, m3⟩ := h
 have hw : IntKind.i64.wrap (3000 - f + 1) = 3000 - f + 1 := by rw [IntKind.wrap_i64]; omega
 by_cases h0 : 0 < f
 ·
  have hd : decide ((3000 : Int) < 3000 - f + 1) = false := by simp; omega
  have hov : decide (f < 0) = false := by simp; omega
  rw [hov] at m3
  go_enter Try.func50, Try.ntmps50
  go_wp2_with (fail)
  all_goals
   go_returns
   refine ⟨by rw [show decide (0 < f) = true by simp; omega]; rfl, ⟨by simpa using hM, fun o => by simp [hf], by simp [m0, go_sem], by simp [m1, go_sem], ?_, ?_⟩, osl⟩
   ·
    rw [show 3000 - (f - 1) = 3000 - f + 1 by omega]; simp [m2, go_sem]
   ·
    rw [show decide (f - 1 < 0) = false by simp; omega]; simp [m3, go_sem]
 ·
  have hd : decide ((3000 : Int) < 3000 - f + 1) = true := by simp; omega
  go_enter Try.func50, Try.ntmps50
  go_wp2_with (fail)
  all_goals
   go_returns
   refine ⟨by rw [show decide (0 < f) = false by simp; omega]; rfl, ⟨by simpa using hM, fun o => by simp [hf], by simp [m0, go_sem], by simp [m1, go_sem], ?_, ?_⟩, osl⟩
   ·
    rw [show 3000 - (f - 1) = 3000 - f + 1 by omega]; simp [m2, go_sem]
   ·
    rw [show decide (f - 1 < 0) = true by simp; omega]; simp [m3, go_sem]
def JoinPost (w : World) (cs : List TCapture) (e : Ending) (w' : World) : Prop :=
 ∃ v, e = .returned v ∧ OwnD w' 40 3 v [] (cs.map TCapture.D) ∧ (∀ b, v.ownBlock = some b → w.heap.size ≤ b) ∧ Bel w w'
set_option maxHeartbeats 2000000 in
theorem join_any (w : World) (S1 S2 : Nat → Prop) (xs ys : List TCapture) (A1 A2 : Option Addr) (c1 c2 : Nat) (h1 : Row w S1 3 A1 c1 (xs.map TCapture.D)) (h2 : Row w S2 3 A2 c2 (ys.map TCapture.D)) (hx : xs.length ≤ 9000) (hy : ys.length ≤ 9000) :
  Calls Try.prog 53 #[.slice A1 xs.length c1, .slice A2 ys.length c2] w (JoinPost w (xs ++ ys)) := by
 have H1 := hide h1
 have H2 := hide h2
 obtain ⟨ic, hic, zc0, zc1, zc2⟩ := info_parts infoCap
 have q1 := h1.1
 have q2 := h2.1
 have q3 := h1.2.1
 have q4 := h2.2.1
 simp only [List.length_map] at q1 q2
 unfold maxLen at q3 q4
 clear h1 h2
 obtain ⟨nw1, hsr1⟩ := Row.src (capD_flat xs) (Row.bel (show Bel w (w.alloc (.cells #[] 40)) from bl) H1.out)
 rw [List.length_map] at hsr1
 have HSR1 := hide hsr1
 have HOz := hide (OwnD.lit0 w 40 3)
 clear hsr1
 go_enter Try.func53, Try.ntmps53
 go_wp2_with (at_builtin; refine wpList_append_D rfl (.tmp 5) (.tmp 6) 34 rfl 40 ic (.agg #[.int .i64 0, .int .i64 0, .int .i64 0]) 3 24 Try.underlying34 hic zc0 zc1 zc2 (by decide) (by decide) HOz.out HSR1.out c1 rfl rfl ?c1 ?c2 ?c3 ?_)
 case c1 => exact fun b _ h => by cases h
 case c2 => simp only [List.length_nil]; omega
 case c3 => simp only [List.length_nil]; unfold maxLen; omega
 intro v5 w5 hO5 hg5 hw5
 have hb5 : Bel w w5 := Below.grown (show Bel w (w.alloc (.cells #[] 40)) from bl) hg5 (by simp) (fun k hk => by have := Option.some.inj (show some w.heap.size = some k from hk); omega)
 have hv5 : ∀ b, v5.ownBlock = some b → w.heap.size ≤ b := fun b hb => (hw5 b hb).elim (fun h => by have := Option.some.inj (show some w.heap.size = some b from h); omega) (fun h => by (try simp at h); omega)
 have HV5 := hide hv5
 have HO5 := hide (show OwnD w5 40 3 v5 [] (xs.map TCapture.D) by simpa using hO5)
 clear hO5 hg5 hw5 hv5
 obtain ⟨nw2, hsr2⟩ := Row.src (capD_flat ys) (Row.bel hb5 H2.out)
 rw [List.length_map] at hsr2
 have HSR2 := hide hsr2
 clear hsr2
 go_wp2_with (at_builtin; refine wpList_append_D rfl (.tmp 7) (.tmp 8) 34 rfl 40 ic (.agg #[.int .i64 0, .int .i64 0, .int .i64 0]) 3 24 Try.underlying34 hic zc0 zc1 zc2 (by decide) (by decide) HO5.out HSR2.out c2 rfl rfl ?c1 ?c2 ?c3 ?_)
 case c1 => exact fun b _ h => by cases h
 case c2 => rw [List.length_map]; omega
 case c3 => rw [List.length_map]; unfold maxLen; omega
 intro v6 w6 hO6 hg6 hw6
 have hb6 : Bel w w6 := Below.grown hb5 hg6 hb5.size (fun k hk => HV5.out k hk)
 have hv6 : ∀ b, v6.ownBlock = some b → w.heap.size ≤ b := fun b hb => (hw6 b hb).elim (fun h => HV5.out b h) (fun h => Nat.le_trans hb5.size h)
 have HV6 := hide hv6
 have HO6 := hide (show OwnD w6 40 3 v6 [] ((xs ++ ys).map TCapture.D) by rw [List.map_append]; exact hO6)
 clear hO6 hg6 hw6 hv6
 go_wp2_with (fail)
 all_goals
  go_returns
  exact ⟨_, rfl, OwnD.bel HO6.out bl, HV6.out, bl⟩
end Go.Proofs.Ytdjbfneniohaaaa
