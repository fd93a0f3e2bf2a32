/- The laws' helpers of Store: what is left behind a datum, copies, comparison. -/
import Derived.Test.YtehcjlkgfgpjnaaGreatDoorPB
import Derived.Test.YtehcjlkgfgpjnaaGreatDoorPTV
namespace Go.Proofs.YtehcjlkgfgpjnaaGreatDoor
set_option linter.unusedVariables false
set_option linter.unusedSimpArgs false
set_option maxRecDepth 100000
open Go.RowKit
def SzStore (t:TStore):Prop:=∀(S:Nat→Prop) (w:World) (vs:List Value) (left:Int),Dat.HoldVals w S t.D vs→0≤left→left≤1048576 →
 Calls Tryz.prog 5 #[.agg vs.toArray,.int .i64 left] w fun e w'=>e=.returned (.int .i64 (szL (Dat.wtL t.D) left))∧Bel w w'
def ToStore (t:TStore):Prop:=∀(S:Nat→Prop) (w:World) (vs:List Value),Dat.HoldVals w S t.D vs→Dat.wtL t.D≤1048576 →
 Calls Tryz.prog 7 #[.agg vs.toArray] w (MadeV w t.D)
def EqStore (t:TStore):Prop:=∀(S S':Nat→Prop) (w:World) (vs vs':List Value),Dat.HoldVals w S t.D vs→Dat.HoldVals w S' t.D vs' →
 Calls Tryz.prog 10 #[.agg vs.toArray,.agg vs'.toArray] w fun e w'=>e=.returned (.bool true)∧Bel w w'
set_option maxHeartbeats 20000000 in
theorem szStore_any:∀t:TStore,SzStore t:=by
 rintro⟨x0,x1,x2,x3,x4,x5,x6,x7,x8,x9,x10,x11,x12⟩
 intro S w vs left hv h0 h1
 obtain⟨A0,c0,A1,c1,A2,c2,A3,c3,A6,c6,A7,c7,A8,c8,rfl,hR0,hR1,hR2,hR3,g4,g5,hR6,hR7,hR8,-,g10,g11,g12⟩:=TStore.vals hv
 have R0:=hide hR0
 have R1:=hide hR1
 have R2:=hide hR2
 have R3:=hide hR3
 have R6:=hide hR6
 have R7:=hide hR7
 have R8:=hide hR8
 clear hv hR0 hR1 hR2 hR3 hR6 hR7 hR8
 unfold maxLen at g4
 rw[TStore.D_mk]
 simp only[Dat.wtL,Dat.wt,List.length_map]
 go_enter Tryz.func5,Tryz.ntmps5
 go_wp2_with (fail)
 refine (Calls.szTwo (szStringS_any x0 S _ _ _ _ (Row.bel bl R0.out) (by omega) (by omega))).mono ?_
 rintro e w1 ⟨l1,rfl,hl1,hb1⟩
 (have hz1:=hb1.sz;obtain⟨hk1_0,hf1_0,hl1_0,hn1_0⟩:=hb1.lay (w.heap.size))
 rcases hl1 with⟨hq1,rfl⟩ | ⟨hq1,hz1'⟩
 ·
  have HQ1:=hide hq1
  clear hq1
  go_wp2_with (fail)
  all_goals
   go_returns
   have HQ1':=HQ1.out
   exact⟨ret_i64 (by rw[szL_no (by omega)]),bl⟩
 have HQ1:=hide hq1
 have HL1:=hide hz1'
 have ha1:0≤l1:=by omega
 have hc1:l1≤1048576:=by omega
 clear hq1 hz1'
 go_wp2_with (fail)
 refine (Calls.szTwo (szRecordTypeS_any x1 S _ _ _ _ (Row.bel bl R1.out) (by omega) (by omega))).mono ?_
 rintro e w2 ⟨l2,rfl,hl2,hb2⟩
 (have hz2:=hb2.sz;obtain⟨hk2_0,hf2_0,hl2_0,hn2_0⟩:=hb2.lay (w.heap.size))
 rcases hl2 with⟨hq2,rfl⟩ | ⟨hq2,hz2'⟩
 ·
  have HQ2:=hide hq2
  clear hq2
  go_wp2_with (fail)
  all_goals
   go_returns
   have HQ1':=HQ1.out
   have HL1':=HL1.out
   have HQ2':=HQ2.out
   exact⟨ret_i64 (by rw[szL_no (by omega)]),bl⟩
 have HQ2:=hide hq2
 have HL2:=hide hz2'
 have ha2:0≤l2:=by omega
 have hc2:l2≤1048576:=by omega
 clear hq2 hz2'
 go_wp2_with (fail)
 refine (Calls.szTwo (szObjectS_any x2 S _ _ _ _ (Row.bel bl R2.out) (by omega) (by omega))).mono ?_
 rintro e w3 ⟨l3,rfl,hl3,hb3⟩
 (have hz3:=hb3.sz;obtain⟨hk3_0,hf3_0,hl3_0,hn3_0⟩:=hb3.lay (w.heap.size))
 rcases hl3 with⟨hq3,rfl⟩ | ⟨hq3,hz3'⟩
 ·
  have HQ3:=hide hq3
  clear hq3
  go_wp2_with (fail)
  all_goals
   go_returns
   have HQ1':=HQ1.out
   have HL1':=HL1.out
   have HQ2':=HQ2.out
   have HL2':=HL2.out
   have HQ3':=HQ3.out
   exact⟨ret_i64 (by rw[szL_no (by omega)]),bl⟩
 have HQ3:=hide hq3
 have HL3:=hide hz3'
 have ha3:0≤l3:=by omega
 have hc3:l3≤1048576:=by omega
 clear hq3 hz3'
 go_wp2_with (fail)
 refine (Calls.szTwo (szValueS_any x3 S _ _ _ _ (Row.bel bl R3.out) (by omega) (by omega))).mono ?_
 rintro e w4 ⟨l4,rfl,hl4,hb4⟩
 (have hz4:=hb4.sz;obtain⟨hk4_0,hf4_0,hl4_0,hn4_0⟩:=hb4.lay (w.heap.size))
 rcases hl4 with⟨hq4,rfl⟩ | ⟨hq4,hz4'⟩
 ·
  have HQ4:=hide hq4
  clear hq4
  go_wp2_with (fail)
  all_goals
   go_returns
   have HQ1':=HQ1.out
   have HL1':=HL1.out
   have HQ2':=HQ2.out
   have HL2':=HL2.out
   have HQ3':=HQ3.out
   have HL3':=HL3.out
   have HQ4':=HQ4.out
   exact⟨ret_i64 (by rw[szL_no (by omega)]),bl⟩
 have HQ4:=hide hq4
 have HL4:=hide hz4'
 have ha4:0≤l4:=by omega
 have hc4:l4≤1048576:=by omega
 clear hq4 hz4'
 rcases Int.lt_or_le (l4) (x4.size:Int)with hq4 | hq4
 ·
  go_wp2_with (fail)
  all_goals
   go_returns
   have HQ1':=HQ1.out
   have HL1':=HL1.out
   have HQ2':=HQ2.out
   have HL2':=HL2.out
   have HQ3':=HQ3.out
   have HL3':=HL3.out
   have HQ4':=HQ4.out
   have HL4':=HL4.out
   exact⟨ret_i64 (by rw[szL_no (by omega)]),bl⟩
 go_wp2_with (fail)
 refine (Calls.szTwo (szStringS_any x6 S _ _ _ _ (Row.bel bl R6.out) (by omega) (by omega))).mono ?_
 rintro e w5 ⟨l5,rfl,hl5,hb5⟩
 (have hz5:=hb5.sz;obtain⟨hk5_0,hf5_0,hl5_0,hn5_0⟩:=hb5.lay (w.heap.size))
 rcases hl5 with⟨hq5,rfl⟩ | ⟨hq5,hz5'⟩
 ·
  have HQ5:=hide hq5
  clear hq5
  go_wp2_with (fail)
  all_goals
   go_returns
   have HQ1':=HQ1.out
   have HL1':=HL1.out
   have HQ2':=HQ2.out
   have HL2':=HL2.out
   have HQ3':=HQ3.out
   have HL3':=HL3.out
   have HQ4':=HQ4.out
   have HL4':=HL4.out
   have HQ5':=HQ5.out
   exact⟨ret_i64 (by rw[szL_no (by omega)]),bl⟩
 have HQ5:=hide hq5
 have HL5:=hide hz5'
 have ha5:0≤l5:=by omega
 have hc5:l5≤1048576:=by omega
 clear hq5 hz5'
 go_wp2_with (fail)
 refine (Calls.szTwo (szStringS_any x7 S _ _ _ _ (Row.bel bl R7.out) (by omega) (by omega))).mono ?_
 rintro e w6 ⟨l6,rfl,hl6,hb6⟩
 (have hz6:=hb6.sz;obtain⟨hk6_0,hf6_0,hl6_0,hn6_0⟩:=hb6.lay (w.heap.size))
 rcases hl6 with⟨hq6,rfl⟩ | ⟨hq6,hz6'⟩
 ·
  have HQ6:=hide hq6
  clear hq6
  go_wp2_with (fail)
  all_goals
   go_returns
   have HQ1':=HQ1.out
   have HL1':=HL1.out
   have HQ2':=HQ2.out
   have HL2':=HL2.out
   have HQ3':=HQ3.out
   have HL3':=HL3.out
   have HQ4':=HQ4.out
   have HL4':=HL4.out
   have HQ5':=HQ5.out
   have HL5':=HL5.out
   have HQ6':=HQ6.out
   exact⟨ret_i64 (by rw[szL_no (by omega)]),bl⟩
 have HQ6:=hide hq6
 have HL6:=hide hz6'
 have ha6:0≤l6:=by omega
 have hc6:l6≤1048576:=by omega
 clear hq6 hz6'
 go_wp2_with (fail)
 refine (Calls.szTwo (szActiveS_any x8 S _ _ _ _ (Row.bel bl R8.out) (by omega) (by omega))).mono ?_
 rintro e w7 ⟨l7,rfl,hl7,hb7⟩
 (have hz7:=hb7.sz;obtain⟨hk7_0,hf7_0,hl7_0,hn7_0⟩:=hb7.lay (w.heap.size))
 rcases hl7 with⟨hq7,rfl⟩ | ⟨hq7,hz7'⟩
 ·
  have HQ7:=hide hq7
  clear hq7
  go_wp2_with (fail)
  all_goals
   go_returns
   have HQ1':=HQ1.out
   have HL1':=HL1.out
   have HQ2':=HQ2.out
   have HL2':=HL2.out
   have HQ3':=HQ3.out
   have HL3':=HL3.out
   have HQ4':=HQ4.out
   have HL4':=HL4.out
   have HQ5':=HQ5.out
   have HL5':=HL5.out
   have HQ6':=HQ6.out
   have HL6':=HL6.out
   have HQ7':=HQ7.out
   exact⟨ret_i64 (by rw[szL_no (by omega)]),bl⟩
 have HQ7:=hide hq7
 have HL7:=hide hz7'
 have ha7:0≤l7:=by omega
 have hc7:l7≤1048576:=by omega
 clear hq7 hz7'
 go_wp2_with (fail)
 all_goals
  go_returns
  have HQ1':=HQ1.out
  have HL1':=HL1.out
  have HQ2':=HQ2.out
  have HL2':=HL2.out
  have HQ3':=HQ3.out
  have HL3':=HL3.out
  have HQ4':=HQ4.out
  have HL4':=HL4.out
  have HQ5':=HQ5.out
  have HL5':=HL5.out
  have HQ6':=HQ6.out
  have HL6':=HL6.out
  have HQ7':=HQ7.out
  have HL7':=HL7.out
  exact⟨ret_i64 (by rw[szL_yes (by omega)];omega),bl⟩
set_option maxHeartbeats 20000000 in
theorem toStore_any:∀t:TStore,ToStore t:=by
 rintro⟨x0,x1,x2,x3,x4,x5,x6,x7,x8,x9,x10,x11,x12⟩
 intro S w vs hv hwt
 obtain⟨A0,c0,A1,c1,A2,c2,A3,c3,A6,c6,A7,c7,A8,c8,rfl,hR0,hR1,hR2,hR3,g4,g5,hR6,hR7,hR8,-,g10,g11,g12⟩:=TStore.vals hv
 have R0:=hide hR0
 have R1:=hide hR1
 have R2:=hide hR2
 have R3:=hide hR3
 have R6:=hide hR6
 have R7:=hide hR7
 have R8:=hide hR8
 have HW:=hide hwt
 rw[TStore.D_mk]at hwt
 simp only[Dat.wtL,Dat.wt,List.length_map]at hwt
 have hw0:x0.length+Dat.wtR (x0.map (fun x=>[Dat.str x]))≤1048576:=by omega
 have hw1:x1.length+Dat.wtR (x1.map TRecordType.D)≤1048576:=by omega
 have hw2:x2.length+Dat.wtR (x2.map TObject.D)≤1048576:=by omega
 have hw3:x3.length+Dat.wtR (x3.map TValue.D)≤1048576:=by omega
 have hw6:x6.length+Dat.wtR (x6.map (fun x=>[Dat.str x]))≤1048576:=by omega
 have hw7:x7.length+Dat.wtR (x7.map (fun x=>[Dat.str x]))≤1048576:=by omega
 have hw8:x8.length+Dat.wtR (x8.map TActive.D)≤1048576:=by omega
 clear hv hwt hR0 hR1 hR2 hR3 hR6 hR7 hR8
 unfold maxLen at g4
 go_enter Tryz.func7,Tryz.ntmps7
 go_wp2_with (fail)
 refine (toStringS_any x0 S _ _ _ (Row.bel bl R0.out) hw0).mono ?_
 rintro e w1 ⟨B0,d0,rfl,hQ0,hb1⟩
 (have hz1:=hb1.sz;obtain⟨hk1_0,hf1_0,hl1_0,hn1_0⟩:=hb1.lay (w.heap.size);obtain⟨hk1_1,hf1_1,hl1_1,hn1_1⟩:=hb1.lay (w.heap.size+1);obtain⟨hk1_2,hf1_2,hl1_2,hn1_2⟩:=hb1.lay (w.heap.size+1+1))
 have Q0:=hide (Row.wide (S':=fun b=>w.heap.size+2<b) (fun b hb=>by simp at hb;omega) hQ0)
 clear hQ0
 go_wp2_with (fail)
 refine (toRecordTypeS_any x1 S _ _ _ (Row.bel bl R1.out) hw1).mono ?_
 rintro e w2 ⟨B1,d1,rfl,hQ1,hb2⟩
 (have hz2:=hb2.sz;obtain⟨hk2_0,hf2_0,hl2_0,hn2_0⟩:=hb2.lay (w.heap.size);obtain⟨hk2_1,hf2_1,hl2_1,hn2_1⟩:=hb2.lay (w.heap.size+1);obtain⟨hk2_2,hf2_2,hl2_2,hn2_2⟩:=hb2.lay (w.heap.size+1+1))
 have Q1:=hide (Row.wide (S':=fun b=>w.heap.size+2<b) (fun b hb=>by simp at hb;omega) hQ1)
 clear hQ1
 go_wp2_with (fail)
 refine (toObjectS_any x2 S _ _ _ (Row.bel bl R2.out) hw2).mono ?_
 rintro e w3 ⟨B2,d2,rfl,hQ2,hb3⟩
 (have hz3:=hb3.sz;obtain⟨hk3_0,hf3_0,hl3_0,hn3_0⟩:=hb3.lay (w.heap.size);obtain⟨hk3_1,hf3_1,hl3_1,hn3_1⟩:=hb3.lay (w.heap.size+1);obtain⟨hk3_2,hf3_2,hl3_2,hn3_2⟩:=hb3.lay (w.heap.size+1+1))
 have Q2:=hide (Row.wide (S':=fun b=>w.heap.size+2<b) (fun b hb=>by simp at hb;omega) hQ2)
 clear hQ2
 go_wp2_with (fail)
 refine (toValueS_any x3 S _ _ _ (Row.bel bl R3.out) hw3).mono ?_
 rintro e w4 ⟨B3,d3,rfl,hQ3,hb4⟩
 (have hz4:=hb4.sz;obtain⟨hk4_0,hf4_0,hl4_0,hn4_0⟩:=hb4.lay (w.heap.size);obtain⟨hk4_1,hf4_1,hl4_1,hn4_1⟩:=hb4.lay (w.heap.size+1);obtain⟨hk4_2,hf4_2,hl4_2,hn4_2⟩:=hb4.lay (w.heap.size+1+1))
 have Q3:=hide (Row.wide (S':=fun b=>w.heap.size+2<b) (fun b hb=>by simp at hb;omega) hQ3)
 clear hQ3
 go_wp2_with (fail)
 refine (toStringS_any x6 S _ _ _ (Row.bel bl R6.out) hw6).mono ?_
 rintro e w5 ⟨B6,d6,rfl,hQ6,hb5⟩
 (have hz5:=hb5.sz;obtain⟨hk5_0,hf5_0,hl5_0,hn5_0⟩:=hb5.lay (w.heap.size);obtain⟨hk5_1,hf5_1,hl5_1,hn5_1⟩:=hb5.lay (w.heap.size+1);obtain⟨hk5_2,hf5_2,hl5_2,hn5_2⟩:=hb5.lay (w.heap.size+1+1))
 have Q6:=hide (Row.wide (S':=fun b=>w.heap.size+2<b) (fun b hb=>by simp at hb;omega) hQ6)
 clear hQ6
 go_wp2_with (fail)
 refine (toStringS_any x7 S _ _ _ (Row.bel bl R7.out) hw7).mono ?_
 rintro e w6 ⟨B7,d7,rfl,hQ7,hb6⟩
 (have hz6:=hb6.sz;obtain⟨hk6_0,hf6_0,hl6_0,hn6_0⟩:=hb6.lay (w.heap.size);obtain⟨hk6_1,hf6_1,hl6_1,hn6_1⟩:=hb6.lay (w.heap.size+1);obtain⟨hk6_2,hf6_2,hl6_2,hn6_2⟩:=hb6.lay (w.heap.size+1+1))
 have Q7:=hide (Row.wide (S':=fun b=>w.heap.size+2<b) (fun b hb=>by simp at hb;omega) hQ7)
 clear hQ7
 go_wp2_with (fail)
 refine (toActiveS_any x8 S _ _ _ (Row.bel bl R8.out) hw8).mono ?_
 rintro e w7 ⟨B8,d8,rfl,hQ8,hb7⟩
 (have hz7:=hb7.sz;obtain⟨hk7_0,hf7_0,hl7_0,hn7_0⟩:=hb7.lay (w.heap.size);obtain⟨hk7_1,hf7_1,hl7_1,hn7_1⟩:=hb7.lay (w.heap.size+1);obtain⟨hk7_2,hf7_2,hl7_2,hn7_2⟩:=hb7.lay (w.heap.size+1+1))
 have Q8:=hide (Row.wide (S':=fun b=>w.heap.size+2<b) (fun b hb=>by simp at hb;omega) hQ8)
 clear hQ8
 go_wp2_with (fail)
 exact bodyPost_ret (v:=.agg #[.slice B0 x0.length d0,.slice B1 x1.length d1,.slice B2 x2.length d2,.slice B3 x3.length d3,.string x4,.int .i64 x5,.slice B6 x6.length d6,.slice B7 x7.length d7,.slice B8 x8.length d8,.bool x9,.int .i64 x10,.int .i64 x11,.int .i64 x12]) (by simp[results,Tryz.results7,go_sem,hk1_1,hf1_1,hk2_1,hf2_1,hk3_1,hf3_1,hk4_1,hf4_1,hk5_1,hf5_1,hk6_1,hf6_1,hk7_1,hf7_1]) rfl
  ⟨[.slice B0 x0.length d0,.slice B1 x1.length d1,.slice B2 x2.length d2,.slice B3 x3.length d3,.string x4,.int .i64 x5,.slice B6 x6.length d6,.slice B7 x7.length d7,.slice B8 x8.length d8,.bool x9,.int .i64 x10,.int .i64 x11,.int .i64 x12],rfl,TStore.vals_mk (Row.wide (fun b hb=>by omega) (Row.off ofl Q0.out)) (Row.wide (fun b hb=>by omega) (Row.off ofl Q1.out)) (Row.wide (fun b hb=>by omega) (Row.off ofl Q2.out)) (Row.wide (fun b hb=>by omega) (Row.off ofl Q3.out)) g4 g5 (Row.wide (fun b hb=>by omega) (Row.off ofl Q6.out)) (Row.wide (fun b hb=>by omega) (Row.off ofl Q7.out)) (Row.wide (fun b hb=>by omega) (Row.off ofl Q8.out)) g10 g11 g12,bl⟩
set_option maxHeartbeats 20000000 in
theorem eqStore_any:∀t:TStore,EqStore t:=by
 rintro⟨x0,x1,x2,x3,x4,x5,x6,x7,x8,x9,x10,x11,x12⟩
 intro S S' w vs vs' hv hv'
 obtain⟨A0,c0,A1,c1,A2,c2,A3,c3,A6,c6,A7,c7,A8,c8,rfl,hR0,hR1,hR2,hR3,g4,g5,hR6,hR7,hR8,-,g10,g11,g12⟩:=TStore.vals hv
 obtain⟨eA0,ec0,eA1,ec1,eA2,ec2,eA3,ec3,eA6,ec6,eA7,ec7,eA8,ec8,rfl,ehR0,ehR1,ehR2,ehR3,-,-,ehR6,ehR7,ehR8,-,-,-,-⟩:=TStore.vals hv'
 have R0:=hide hR0
 have R1:=hide hR1
 have R2:=hide hR2
 have R3:=hide hR3
 have R6:=hide hR6
 have R7:=hide hR7
 have R8:=hide hR8
 have T0:=hide ehR0
 have T1:=hide ehR1
 have T2:=hide ehR2
 have T3:=hide ehR3
 have T6:=hide ehR6
 have T7:=hide ehR7
 have T8:=hide ehR8
 clear hv hv' hR0 hR1 hR2 hR3 hR6 hR7 hR8 ehR0 ehR1 ehR2 ehR3 ehR6 ehR7 ehR8
 unfold maxLen at g4
 go_enter Tryz.func10,Tryz.ntmps10
 go_wp2_with (first
  | (go_at_call 9;(with_reducible refine (eqStringS_any x0 S S' _ _ _ _ _ (Row.bel bl R0.out) (Row.bel bl T0.out)).mono ?_);rintro e w1 ⟨rfl,hb1⟩;have hz1:=hb1.sz;obtain⟨hk1_0,hf1_0,hl1_0,hn1_0⟩:=hb1.lay (w.heap.size);obtain⟨hk1_1,hf1_1,hl1_1,hn1_1⟩:=hb1.lay (w.heap.size+1);(try simp only[VVal.val]))
  | (go_at_call 33;(with_reducible refine (eqRecordTypeS_any x1 S S' _ _ _ _ _ (Row.bel bl R1.out) (Row.bel bl T1.out)).mono ?_);rintro e w2 ⟨rfl,hb2⟩;have hz2:=hb2.sz;obtain⟨hk2_0,hf2_0,hl2_0,hn2_0⟩:=hb2.lay (w.heap.size);obtain⟨hk2_1,hf2_1,hl2_1,hn2_1⟩:=hb2.lay (w.heap.size+1);(try simp only[VVal.val]))
  | (go_at_call 34;(with_reducible refine (eqObjectS_any x2 S S' _ _ _ _ _ (Row.bel bl R2.out) (Row.bel bl T2.out)).mono ?_);rintro e w3 ⟨rfl,hb3⟩;have hz3:=hb3.sz;obtain⟨hk3_0,hf3_0,hl3_0,hn3_0⟩:=hb3.lay (w.heap.size);obtain⟨hk3_1,hf3_1,hl3_1,hn3_1⟩:=hb3.lay (w.heap.size+1);(try simp only[VVal.val]))
  | (go_at_call 35;(with_reducible refine (eqValueS_any x3 S S' _ _ _ _ _ (Row.bel bl R3.out) (Row.bel bl T3.out)).mono ?_);rintro e w4 ⟨rfl,hb4⟩;have hz4:=hb4.sz;obtain⟨hk4_0,hf4_0,hl4_0,hn4_0⟩:=hb4.lay (w.heap.size);obtain⟨hk4_1,hf4_1,hl4_1,hn4_1⟩:=hb4.lay (w.heap.size+1);(try simp only[VVal.val]))
  | (go_at_call 9;(with_reducible refine (eqStringS_any x6 S S' _ _ _ _ _ (Row.bel bl R6.out) (Row.bel bl T6.out)).mono ?_);rintro e w5 ⟨rfl,hb5⟩;have hz5:=hb5.sz;obtain⟨hk5_0,hf5_0,hl5_0,hn5_0⟩:=hb5.lay (w.heap.size);obtain⟨hk5_1,hf5_1,hl5_1,hn5_1⟩:=hb5.lay (w.heap.size+1);(try simp only[VVal.val]))
  | (go_at_call 9;(with_reducible refine (eqStringS_any x7 S S' _ _ _ _ _ (Row.bel bl R7.out) (Row.bel bl T7.out)).mono ?_);rintro e w6 ⟨rfl,hb6⟩;have hz6:=hb6.sz;obtain⟨hk6_0,hf6_0,hl6_0,hn6_0⟩:=hb6.lay (w.heap.size);obtain⟨hk6_1,hf6_1,hl6_1,hn6_1⟩:=hb6.lay (w.heap.size+1);(try simp only[VVal.val]))
  | (go_at_call 36;(with_reducible refine (eqActiveS_any x8 S S' _ _ _ _ _ (Row.bel bl R8.out) (Row.bel bl T8.out)).mono ?_);rintro e w7 ⟨rfl,hb7⟩;have hz7:=hb7.sz;obtain⟨hk7_0,hf7_0,hl7_0,hn7_0⟩:=hb7.lay (w.heap.size);obtain⟨hk7_1,hf7_1,hl7_1,hn7_1⟩:=hb7.lay (w.heap.size+1);(try simp only[VVal.val])))
 all_goals
  go_returns
  exact⟨rfl,bl⟩
end Go.Proofs.YtehcjlkgfgpjnaaGreatDoor
