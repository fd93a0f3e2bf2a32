/- The laws' helpers of Store: what is left behind a datum, copies, comparison. -/
import Derived.Test.YtgofbnmablgedaaGreatDoorPD
import Derived.Test.YtgofbnmablgedaaGreatDoorPTV
import Derived.Test.YtgofbnmablgedaaGreatDoorPHStringS
namespace Go.Proofs.YtgofbnmablgedaaGreatDoor
set_option linter.unusedVariables false
set_option linter.unusedSimpArgs false
set_option maxRecDepth 100000
open Go.RowKit
def EqStore (t : TStore) : Prop := ∀ (S S' : Nat → Prop) (w : World) (vs vs' : List Value), Dat.HoldVals w S t.D vs → Dat.HoldVals w S' t.D vs' →
 Calls Tryz.prog 8 #[.agg vs.toArray, .agg vs'.toArray] w fun e w' => e = .returned (.bool true) ∧ Bel w w'
set_option maxHeartbeats 20000000 in
theorem eqStore_any : ∀ t : TStore, EqStore t := by
 rintro ⟨x0, x1, x2, x3, x4, x5, x6, x7, x8, x9, x10, x11, x12⟩
 intro S S' w vs vs' hv hv'
 obtain ⟨A0, c0, A1, c1, A2, c2, A3, c3, A6, c6, A7, c7, A8, c8, rfl, hR0, hR1, hR2, hR3, g4, g5, hR6, hR7, hR8, -, g10, g11, g12⟩ := TStore.vals hv
 obtain ⟨eA0, ec0, eA1, ec1, eA2, ec2, eA3, ec3, eA6, ec6, eA7, ec7, eA8, ec8, rfl, ehR0, ehR1, ehR2, ehR3, -, -, ehR6, ehR7, ehR8, -, -, -, -⟩ := TStore.vals hv'
 have R0 := hide hR0
 have R1 := hide hR1
 have R2 := hide hR2
 have R3 := hide hR3
 have R6 := hide hR6
 have R7 := hide hR7
 have R8 := hide hR8
 have T0 := hide ehR0
 have T1 := hide ehR1
 have T2 := hide ehR2
 have T3 := hide ehR3
 have T6 := hide ehR6
 have T7 := hide ehR7
 have T8 := hide ehR8
 clear hv hv' hR0 hR1 hR2 hR3 hR6 hR7 hR8 ehR0 ehR1 ehR2 ehR3 ehR6 ehR7 ehR8
 unfold maxLen at g4
 go_enter Tryz.func8, Tryz.ntmps8
 go_wp2_with (first
  | (go_at_call 24; (with_reducible refine (eqStringS_any x0 S S' _ _ _ _ _ (Row.bel bl R0.out) (Row.bel bl T0.out)).mono ?_); rintro e w1 ⟨rfl, hb1⟩; have hz1 := hb1.sz; obtain ⟨hk1_0, hf1_0, hl1_0, hn1_0⟩ := hb1.lay (w.heap.size); obtain ⟨hk1_1, hf1_1, hl1_1, hn1_1⟩ := hb1.lay (w.heap.size + 1); (try simp only [VVal.val]))
  | (go_at_call 25; (with_reducible refine (eqRecordTypeS_any x1 S S' _ _ _ _ _ (Row.bel bl R1.out) (Row.bel bl T1.out)).mono ?_); rintro e w2 ⟨rfl, hb2⟩; have hz2 := hb2.sz; obtain ⟨hk2_0, hf2_0, hl2_0, hn2_0⟩ := hb2.lay (w.heap.size); obtain ⟨hk2_1, hf2_1, hl2_1, hn2_1⟩ := hb2.lay (w.heap.size + 1); (try simp only [VVal.val]))
  | (go_at_call 26; (with_reducible refine (eqObjectS_any x2 S S' _ _ _ _ _ (Row.bel bl R2.out) (Row.bel bl T2.out)).mono ?_); rintro e w3 ⟨rfl, hb3⟩; have hz3 := hb3.sz; obtain ⟨hk3_0, hf3_0, hl3_0, hn3_0⟩ := hb3.lay (w.heap.size); obtain ⟨hk3_1, hf3_1, hl3_1, hn3_1⟩ := hb3.lay (w.heap.size + 1); (try simp only [VVal.val]))
  | (go_at_call 27; (with_reducible refine (eqValueS_any x3 S S' _ _ _ _ _ (Row.bel bl R3.out) (Row.bel bl T3.out)).mono ?_); rintro e w4 ⟨rfl, hb4⟩; have hz4 := hb4.sz; obtain ⟨hk4_0, hf4_0, hl4_0, hn4_0⟩ := hb4.lay (w.heap.size); obtain ⟨hk4_1, hf4_1, hl4_1, hn4_1⟩ := hb4.lay (w.heap.size + 1); (try simp only [VVal.val]))
  | (go_at_call 24; (with_reducible refine (eqStringS_any x6 S S' _ _ _ _ _ (Row.bel bl R6.out) (Row.bel bl T6.out)).mono ?_); rintro e w5 ⟨rfl, hb5⟩; have hz5 := hb5.sz; obtain ⟨hk5_0, hf5_0, hl5_0, hn5_0⟩ := hb5.lay (w.heap.size); obtain ⟨hk5_1, hf5_1, hl5_1, hn5_1⟩ := hb5.lay (w.heap.size + 1); (try simp only [VVal.val]))
  | (go_at_call 24; (with_reducible refine (eqStringS_any x7 S S' _ _ _ _ _ (Row.bel bl R7.out) (Row.bel bl T7.out)).mono ?_); rintro e w6 ⟨rfl, hb6⟩; have hz6 := hb6.sz; obtain ⟨hk6_0, hf6_0, hl6_0, hn6_0⟩ := hb6.lay (w.heap.size); obtain ⟨hk6_1, hf6_1, hl6_1, hn6_1⟩ := hb6.lay (w.heap.size + 1); (try simp only [VVal.val]))
  | (go_at_call 28; (with_reducible refine (eqActiveS_any x8 S S' _ _ _ _ _ (Row.bel bl R8.out) (Row.bel bl T8.out)).mono ?_); rintro e w7 ⟨rfl, hb7⟩; have hz7 := hb7.sz; obtain ⟨hk7_0, hf7_0, hl7_0, hn7_0⟩ := hb7.lay (w.heap.size); obtain ⟨hk7_1, hf7_1, hl7_1, hn7_1⟩ := hb7.lay (w.heap.size + 1); (try simp only [VVal.val])))
 all_goals
  go_returns
  exact ⟨rfl, bl⟩
end Go.Proofs.YtgofbnmablgedaaGreatDoor
