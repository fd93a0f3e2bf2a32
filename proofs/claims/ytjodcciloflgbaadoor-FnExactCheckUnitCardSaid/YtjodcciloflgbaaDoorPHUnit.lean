/- The laws' helpers of Unit: what is left behind a datum, copies, comparison. -/
import Derived.Test.YtjodcciloflgbaaDoorPD
import Derived.Test.YtjodcciloflgbaaDoorPTV
import Derived.Test.YtjodcciloflgbaaDoorPHProcedure
import Derived.Test.YtjodcciloflgbaaDoorPHRecordType
import Derived.Test.YtjodcciloflgbaaDoorPHStringS
namespace Go.Proofs.YtjodcciloflgbaaDoor
set_option linter.unusedVariables false
set_option linter.unusedSimpArgs false
set_option maxRecDepth 100000
open Go.RowKit
def SzUnit (t : TUnit) : Prop := ∀ (S : Nat → Prop) (w : World) (vs : List Value) (left : Int), Dat.HoldVals w S t.D vs → 0 ≤ left → left ≤ 1048576 →
 Calls Tryd.prog 6 #[.agg vs.toArray, .int .i64 left] w fun e w' => e = .returned (.int .i64 (szL (Dat.wtL t.D) left)) ∧ Bel w w'
def ToUnit (t : TUnit) : Prop := ∀ (S : Nat → Prop) (w : World) (vs : List Value), Dat.HoldVals w S t.D vs → Dat.wtL t.D ≤ 1048576 →
 Calls Tryd.prog 8 #[.agg vs.toArray] w (MadeV w t.D)
def EqUnit (t : TUnit) : Prop := ∀ (S S' : Nat → Prop) (w : World) (vs vs' : List Value), Dat.HoldVals w S t.D vs → Dat.HoldVals w S' t.D vs' →
 Calls Tryd.prog 10 #[.agg vs.toArray, .agg vs'.toArray] w fun e w' => e = .returned (.bool true) ∧ Bel w w'
set_option maxHeartbeats 1000000 in
theorem szUnit_any : ∀ t : TUnit, SzUnit t := by
 rintro ⟨x0, x1, x2⟩
 intro S w vs left hv h0 h1
 obtain ⟨A0, c0, A1, c1, A2, c2, rfl, hR0, hR1, hR2⟩ := TUnit.vals hv
 have R0 := hide hR0
 have R1 := hide hR1
 have R2 := hide hR2
 clear hv hR0 hR1 hR2
 rw [TUnit.D_mk]
 simp only [Dat.wtL, Dat.wt, List.length_map]
 go_enter Tryd.func6, Tryd.ntmps6
 go_wp2_with (fail)
 refine (Calls.szTwo (szRecordTypeS_any x0 S _ _ _ _ (Row.bel bl R0.out) (by omega) (by omega))).mono ?_
 rintro e w1 ⟨l1, rfl, hl1, hb1⟩
 (have hz1 := hb1.sz; obtain ⟨hk1_0, hf1_0, hl1_0, hn1_0⟩ := hb1.lay (w.heap.size))
 rcases hl1 with ⟨hq1, rfl⟩ | ⟨hq1, hz1'⟩
 ·
  have HQ1 := hide hq1
  clear hq1
  go_wp2_with (fail)
  all_goals
   go_returns
   have HQ1' := HQ1.out
   exact ⟨ret_i64 (by rw [szL_no (by omega)]), bl⟩
 have HQ1 := hide hq1
 have HL1 := hide hz1'
 have ha1 : 0 ≤ l1 := by omega
 have hc1 : l1 ≤ 1048576 := by omega
 clear hq1 hz1'
 go_wp2_with (fail)
 refine (Calls.szTwo (szStringS_any x1 S _ _ _ _ (Row.bel bl R1.out) (by omega) (by omega))).mono ?_
 rintro e w2 ⟨l2, rfl, hl2, hb2⟩
 (have hz2 := hb2.sz; obtain ⟨hk2_0, hf2_0, hl2_0, hn2_0⟩ := hb2.lay (w.heap.size))
 rcases hl2 with ⟨hq2, rfl⟩ | ⟨hq2, hz2'⟩
 ·
  have HQ2 := hide hq2
  clear hq2
  go_wp2_with (fail)
  all_goals
   go_returns
   have HQ1' := HQ1.out
   have HL1' := HL1.out
   have HQ2' := HQ2.out
   exact ⟨ret_i64 (by rw [szL_no (by omega)]), bl⟩
 have HQ2 := hide hq2
 have HL2 := hide hz2'
 have ha2 : 0 ≤ l2 := by omega
 have hc2 : l2 ≤ 1048576 := by omega
 clear hq2 hz2'
 go_wp2_with (fail)
 refine (Calls.szTwo (szProcedureS_any x2 S _ _ _ _ (Row.bel bl R2.out) (by omega) (by omega))).mono ?_
 rintro e w3 ⟨l3, rfl, hl3, hb3⟩
 (have hz3 := hb3.sz; obtain ⟨hk3_0, hf3_0, hl3_0, hn3_0⟩ := hb3.lay (w.heap.size))
 rcases hl3 with ⟨hq3, rfl⟩ | ⟨hq3, hz3'⟩
 ·
  have HQ3 := hide hq3
  clear hq3
  go_wp2_with (fail)
  all_goals
   go_returns
   have HQ1' := HQ1.out
   have HL1' := HL1.out
   have HQ2' := HQ2.out
   have HL2' := HL2.out
   have HQ3' := HQ3.out
   exact ⟨ret_i64 (by rw [szL_no (by omega)]), bl⟩
 have HQ3 := hide hq3
 have HL3 := hide hz3'
 have ha3 : 0 ≤ l3 := by omega
 have hc3 : l3 ≤ 1048576 := by omega
 clear hq3 hz3'
 go_wp2_with (fail)
 all_goals
  go_returns
  have HQ1' := HQ1.out
  have HL1' := HL1.out
  have HQ2' := HQ2.out
  have HL2' := HL2.out
  have HQ3' := HQ3.out
  have HL3' := HL3.out
  exact ⟨ret_i64 (by rw [szL_yes (by omega)]; omega), bl⟩
set_option maxHeartbeats 1000000 in
theorem toUnit_any : ∀ t : TUnit, ToUnit t := by
 rintro ⟨x0, x1, x2⟩
 intro S w vs hv hwt
 obtain ⟨A0, c0, A1, c1, A2, c2, rfl, hR0, hR1, hR2⟩ := TUnit.vals hv
 have R0 := hide hR0
 have R1 := hide hR1
 have R2 := hide hR2
 have HW := hide hwt
 rw [TUnit.D_mk] at hwt
 simp only [Dat.wtL, Dat.wt, List.length_map] at hwt
 have hw0 : x0.length + Dat.wtR (x0.map TRecordType.D) ≤ 1048576 := by omega
 have hw1 : x1.length + Dat.wtR (x1.map (fun x => [Dat.str x])) ≤ 1048576 := by omega
 have hw2 : x2.length + Dat.wtR (x2.map TProcedure.D) ≤ 1048576 := by omega
 clear hv hwt hR0 hR1 hR2
 go_enter Tryd.func8, Tryd.ntmps8
 go_wp2_with (fail)
 refine (toRecordTypeS_any x0 S _ _ _ (Row.bel bl R0.out) hw0).mono ?_
 rintro e w1 ⟨B0, d0, rfl, hQ0, hb1⟩
 (have hz1 := hb1.sz; obtain ⟨hk1_0, hf1_0, hl1_0, hn1_0⟩ := hb1.lay (w.heap.size); obtain ⟨hk1_1, hf1_1, hl1_1, hn1_1⟩ := hb1.lay (w.heap.size + 1); obtain ⟨hk1_2, hf1_2, hl1_2, hn1_2⟩ := hb1.lay (w.heap.size + 1 + 1))
 have Q0 := hide (Row.wide (S' := fun b => w.heap.size + 2 < b) (fun b hb => by (try simp at hb); omega) hQ0)
 clear hQ0
 go_wp2_with (fail)
 refine (toStringS_any x1 S _ _ _ (Row.bel bl R1.out) hw1).mono ?_
 rintro e w2 ⟨B1, d1, rfl, hQ1, hb2⟩
 (have hz2 := hb2.sz; obtain ⟨hk2_0, hf2_0, hl2_0, hn2_0⟩ := hb2.lay (w.heap.size); obtain ⟨hk2_1, hf2_1, hl2_1, hn2_1⟩ := hb2.lay (w.heap.size + 1); obtain ⟨hk2_2, hf2_2, hl2_2, hn2_2⟩ := hb2.lay (w.heap.size + 1 + 1))
 have Q1 := hide (Row.wide (S' := fun b => w.heap.size + 2 < b) (fun b hb => by (try simp at hb); omega) hQ1)
 clear hQ1
 go_wp2_with (fail)
 refine (toProcedureS_any x2 S _ _ _ (Row.bel bl R2.out) hw2).mono ?_
 rintro e w3 ⟨B2, d2, rfl, hQ2, hb3⟩
 (have hz3 := hb3.sz; obtain ⟨hk3_0, hf3_0, hl3_0, hn3_0⟩ := hb3.lay (w.heap.size); obtain ⟨hk3_1, hf3_1, hl3_1, hn3_1⟩ := hb3.lay (w.heap.size + 1); obtain ⟨hk3_2, hf3_2, hl3_2, hn3_2⟩ := hb3.lay (w.heap.size + 1 + 1))
 have Q2 := hide (Row.wide (S' := fun b => w.heap.size + 2 < b) (fun b hb => by (try simp at hb); omega) hQ2)
 clear hQ2
 go_wp2_with (fail)
 exact bodyPost_ret (v := .agg #[.slice B0 x0.length d0, .slice B1 x1.length d1, .slice B2 x2.length d2]) (by simp [results, Tryd.results8, go_sem, hk1_1, hf1_1, hk2_1, hf2_1, hk3_1, hf3_1]) rfl
  ⟨[.slice B0 x0.length d0, .slice B1 x1.length d1, .slice B2 x2.length d2], rfl, TUnit.vals_mk (Row.wide (fun b hb => by omega) (Row.off ofl Q0.out)) (Row.wide (fun b hb => by omega) (Row.off ofl Q1.out)) (Row.wide (fun b hb => by omega) (Row.off ofl Q2.out)), bl⟩
set_option maxHeartbeats 1000000 in
theorem eqUnit_any : ∀ t : TUnit, EqUnit t := by
 rintro ⟨x0, x1, x2⟩
 intro S S' w vs vs' hv hv'
 obtain ⟨A0, c0, A1, c1, A2, c2, rfl, hR0, hR1, hR2⟩ := TUnit.vals hv
 obtain ⟨eA0, ec0, eA1, ec1, eA2, ec2, rfl, ehR0, ehR1, ehR2⟩ := TUnit.vals hv'
 have R0 := hide hR0
 have R1 := hide hR1
 have R2 := hide hR2
 have T0 := hide ehR0
 have T1 := hide ehR1
 have T2 := hide ehR2
 clear hv hv' hR0 hR1 hR2 ehR0 ehR1 ehR2
 go_enter Tryd.func10, Tryd.ntmps10
 go_wp2_with (first
  | (go_at_call 32; (with_reducible refine (eqRecordTypeS_any x0 S S' _ _ _ _ _ (Row.bel bl R0.out) (Row.bel bl T0.out)).mono ?_); rintro e w1 ⟨rfl, hb1⟩; have hz1 := hb1.sz; obtain ⟨hk1_0, hf1_0, hl1_0, hn1_0⟩ := hb1.lay (w.heap.size); obtain ⟨hk1_1, hf1_1, hl1_1, hn1_1⟩ := hb1.lay (w.heap.size + 1); (try simp only [VVal.val]))
  | (go_at_call 15; (with_reducible refine (eqStringS_any x1 S S' _ _ _ _ _ (Row.bel bl R1.out) (Row.bel bl T1.out)).mono ?_); rintro e w2 ⟨rfl, hb2⟩; have hz2 := hb2.sz; obtain ⟨hk2_0, hf2_0, hl2_0, hn2_0⟩ := hb2.lay (w.heap.size); obtain ⟨hk2_1, hf2_1, hl2_1, hn2_1⟩ := hb2.lay (w.heap.size + 1); (try simp only [VVal.val]))
  | (go_at_call 33; (with_reducible refine (eqProcedureS_any x2 S S' _ _ _ _ _ (Row.bel bl R2.out) (Row.bel bl T2.out)).mono ?_); rintro e w3 ⟨rfl, hb3⟩; have hz3 := hb3.sz; obtain ⟨hk3_0, hf3_0, hl3_0, hn3_0⟩ := hb3.lay (w.heap.size); obtain ⟨hk3_1, hf3_1, hl3_1, hn3_1⟩ := hb3.lay (w.heap.size + 1); (try simp only [VVal.val])))
 all_goals
  go_returns
  exact ⟨rfl, bl⟩
end Go.Proofs.YtjodcciloflgbaaDoor
