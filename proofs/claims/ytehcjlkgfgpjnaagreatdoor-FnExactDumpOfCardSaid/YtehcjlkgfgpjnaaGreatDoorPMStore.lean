/- Own data of Store: copies, marks. -/
import Derived.Test.YtehcjlkgfgpjnaaGreatDoorPHStore
import Derived.Test.YtehcjlkgfgpjnaaGreatDoorPOw
import Derived.Test.YtehcjlkgfgpjnaaGreatDoorPMStringS
namespace Go.Proofs.YtehcjlkgfgpjnaaGreatDoor
set_option linter.unusedVariables false
set_option linter.unusedSimpArgs false
set_option maxRecDepth 100000
open Go.RowKit
set_option maxHeartbeats 4000000 in
theorem TStore.vals_own {w:World} {L:List Nat} {x0:List ByteArray} {x1:List TRecordType} {x2:List TObject} {x3:List TValue} {x4:ByteArray} {x5:Int} {x6:List ByteArray} {x7:List ByteArray} {x8:List TActive} {x9:Bool} {x10:Int} {x11:Int} {x12:Int} {vs:List Value} (h:Dat.OwnVals w L (TStore.mk x0 x1 x2 x3 x4 x5 x6 x7 x8 x9 x10 x11 x12).D vs):∃A0 c0 L0 A1 c1 L1 A2 c2 L2 A3 c3 L3 A6 c6 L6 A7 c7 L7 A8 c8 L8,L=L0++(L1++(L2++(L3++(L6++(L7++L8)))))∧vs=[.slice A0 x0.length c0,.slice A1 x1.length c1,.slice A2 x2.length c2,.slice A3 x3.length c3,.string x4,.int .i64 x5,.slice A6 x6.length c6,.slice A7 x7.length c7,.slice A8 x8.length c8,.bool x9,.int .i64 x10,.int .i64 x11,.int .i64 x12]∧OwnRow w L0 1 A0 c0 (x0.map (fun x=>[Dat.str x]))∧OwnRow w L1 3 A1 c1 (x1.map TRecordType.D)∧OwnRow w L2 5 A2 c2 (x2.map TObject.D)∧OwnRow w L3 6 A3 c3 (x3.map TValue.D)∧x4.size≤maxLen∧InI x5∧OwnRow w L6 1 A6 c6 (x6.map (fun x=>[Dat.str x]))∧OwnRow w L7 1 A7 c7 (x7.map (fun x=>[Dat.str x]))∧OwnRow w L8 2 A8 c8 (x8.map TActive.D)∧True∧InI x10∧InI x11∧InI x12:=by
 rw[TStore.D_mk]at h
 have hl:=h.length
 obtain⟨u0,u1,u2,u3,u4,u5,u6,u7,u8,u9,u10,u11,u12,rfl⟩:=lst13 (hl.trans rfl)
 clear hl
 simp only[Dat.OwnVals]at h
 obtain⟨M0,N0,e0,h0,M1,N1,e1,h1,M2,N2,e2,h2,M3,N3,e3,h3,M4,N4,e4,h4,M5,N5,e5,h5,M6,N6,e6,h6,M7,N7,e7,h7,M8,N8,e8,h8,M9,N9,e9,h9,M10,N10,e10,h10,M11,N11,e11,h11,M12,N12,e12,h12,en⟩:=h
 subst en
 subst e12
 subst e11
 subst e10
 subst e9
 subst e8
 subst e7
 subst e6
 subst e5
 subst e4
 subst e3
 subst e2
 subst e1
 subst e0
 obtain⟨A0,c0,rfl,g0⟩:=Dat.own_row.1 h0
 obtain⟨A1,c1,rfl,g1⟩:=Dat.own_row.1 h1
 obtain⟨A2,c2,rfl,g2⟩:=Dat.own_row.1 h2
 obtain⟨A3,c3,rfl,g3⟩:=Dat.own_row.1 h3
 obtain⟨rfl,rfl,g4⟩:=Dat.own_str.1 h4
 obtain⟨rfl,rfl,g5⟩:=Dat.own_int.1 h5
 obtain⟨A6,c6,rfl,g6⟩:=Dat.own_row.1 h6
 obtain⟨A7,c7,rfl,g7⟩:=Dat.own_row.1 h7
 obtain⟨A8,c8,rfl,g8⟩:=Dat.own_row.1 h8
 obtain⟨rfl,rfl⟩:=Dat.own_bool.1 h9
 obtain⟨rfl,rfl,g10⟩:=Dat.own_int.1 h10
 obtain⟨rfl,rfl,g11⟩:=Dat.own_int.1 h11
 obtain⟨rfl,rfl,g12⟩:=Dat.own_int.1 h12
 exact⟨A0,c0,M0,A1,c1,M1,A2,c2,M2,A3,c3,M3,A6,c6,M6,A7,c7,M7,A8,c8,M8,by simp only[List.nil_append,List.append_nil],by simp only[List.length_map],g0,g1,g2,g3,g4,g5,g6,g7,g8,trivial,g10,g11,g12⟩
theorem TStore.own_mk {w:World} {x0:List ByteArray} {x1:List TRecordType} {x2:List TObject} {x3:List TValue} {x4:ByteArray} {x5:Int} {x6:List ByteArray} {x7:List ByteArray} {x8:List TActive} {x9:Bool} {x10:Int} {x11:Int} {x12:Int} {A0:Option Addr} {c0:Nat} {L0:List Nat} {A1:Option Addr} {c1:Nat} {L1:List Nat} {A2:Option Addr} {c2:Nat} {L2:List Nat} {A3:Option Addr} {c3:Nat} {L3:List Nat} {A6:Option Addr} {c6:Nat} {L6:List Nat} {A7:Option Addr} {c7:Nat} {L7:List Nat} {A8:Option Addr} {c8:Nat} {L8:List Nat} (h0:OwnRow w L0 1 A0 c0 (x0.map (fun x=>[Dat.str x]))) (h1:OwnRow w L1 3 A1 c1 (x1.map TRecordType.D)) (h2:OwnRow w L2 5 A2 c2 (x2.map TObject.D)) (h3:OwnRow w L3 6 A3 c3 (x3.map TValue.D)) (h4:x4.size≤maxLen) (h5:InI x5) (h6:OwnRow w L6 1 A6 c6 (x6.map (fun x=>[Dat.str x]))) (h7:OwnRow w L7 1 A7 c7 (x7.map (fun x=>[Dat.str x]))) (h8:OwnRow w L8 2 A8 c8 (x8.map TActive.D)) (h10:InI x10) (h11:InI x11) (h12:InI x12):Dat.OwnVals w (L0++(L1++(L2++(L3++(L6++(L7++L8)))))) (TStore.mk x0 x1 x2 x3 x4 x5 x6 x7 x8 x9 x10 x11 x12).D [.slice A0 x0.length c0,.slice A1 x1.length c1,.slice A2 x2.length c2,.slice A3 x3.length c3,.string x4,.int .i64 x5,.slice A6 x6.length c6,.slice A7 x7.length c7,.slice A8 x8.length c8,.bool x9,.int .i64 x10,.int .i64 x11,.int .i64 x12]:=by
 rw[TStore.D_mk]
 exact⟨L0,_,rfl,Dat.own_row.2 ⟨_,_,by simp only[List.length_map],h0⟩,⟨L1,_,rfl,Dat.own_row.2 ⟨_,_,by simp only[List.length_map],h1⟩,⟨L2,_,rfl,Dat.own_row.2 ⟨_,_,by simp only[List.length_map],h2⟩,⟨L3,_,rfl,Dat.own_row.2 ⟨_,_,by simp only[List.length_map],h3⟩,⟨[],_,(List.nil_append _).symm,Dat.own_str.2 ⟨rfl,rfl,h4⟩,⟨[],_,(List.nil_append _).symm,Dat.own_int.2 ⟨rfl,rfl,h5⟩,⟨L6,_,rfl,Dat.own_row.2 ⟨_,_,by simp only[List.length_map],h6⟩,⟨L7,_,rfl,Dat.own_row.2 ⟨_,_,by simp only[List.length_map],h7⟩,⟨L8,_,(List.append_nil _).symm,Dat.own_row.2 ⟨_,_,by simp only[List.length_map],h8⟩,⟨[],_,(List.nil_append _).symm,Dat.own_bool.2 ⟨rfl,rfl⟩,⟨[],_,(List.nil_append _).symm,Dat.own_int.2 ⟨rfl,rfl,h10⟩,⟨[],_,(List.nil_append _).symm,Dat.own_int.2 ⟨rfl,rfl,h11⟩,⟨[],_,(List.nil_append _).symm,Dat.own_int.2 ⟨rfl,rfl,h12⟩,rfl⟩⟩⟩⟩⟩⟩⟩⟩⟩⟩⟩⟩⟩
def ToStoreL (t:TStore):Prop:=∀(S:Nat→Prop) (w:World) (vs:List Value),Dat.HoldVals w S t.D vs→Dat.wtL t.D≤1048576 →
 Calls Tryz.prog 7 #[.agg vs.toArray] w (MadeVL w t.D)
set_option maxHeartbeats 8000000 in
theorem toStoreL_any:∀t:TStore,ToStoreL t:=by
 rintro⟨x0,x1,x2,x3,x4,x5,x6,x7,x8,x9,x10,x11,x12⟩
 intro S w vs hv hwt
 obtain⟨A0,c0,A1,c1,A2,c2,A3,c3,A6,c6,A7,c7,A8,c8,rfl,hR0,hR1,hR2,hR3,g4,g5,hR6,hR7,hR8,-,g10,g11,g12⟩:=TStore.vals hv
 have R0:=hide hR0
 have R1:=hide hR1
 have R2:=hide hR2
 have R3:=hide hR3
 have R6:=hide hR6
 have R7:=hide hR7
 have R8:=hide hR8
 rw[TStore.D_mk]at hwt
 simp only[Dat.wtL,Dat.wt,List.length_map]at hwt
 have hw0:x0.length+Dat.wtR (x0.map (fun x=>[Dat.str x]))≤1048576:=by omega
 have hw1:x1.length+Dat.wtR (x1.map TRecordType.D)≤1048576:=by omega
 have hw2:x2.length+Dat.wtR (x2.map TObject.D)≤1048576:=by omega
 have hw3:x3.length+Dat.wtR (x3.map TValue.D)≤1048576:=by omega
 have hw6:x6.length+Dat.wtR (x6.map (fun x=>[Dat.str x]))≤1048576:=by omega
 have hw7:x7.length+Dat.wtR (x7.map (fun x=>[Dat.str x]))≤1048576:=by omega
 have hw8:x8.length+Dat.wtR (x8.map TActive.D)≤1048576:=by omega
 clear hv hwt hR0 hR1 hR2 hR3 hR6 hR7 hR8
 unfold maxLen at g4
 go_enter Tryz.func7,Tryz.ntmps7
 go_wp2_with (fail)
 refine (toStringSL_any x0 S _ _ _ (Row.bel bl R0.out) hw0).mono ?_
 rintro e w1 ⟨B0,d0,L0,rfl,hQ0,hN0,hL0,hb1⟩
 (have hz1:=hb1.sz;obtain⟨hk1_0,hf1_0,hl1_0,hn1_0⟩:=hb1.lay (w.heap.size);obtain⟨hk1_1,hf1_1,hl1_1,hn1_1⟩:=hb1.lay (w.heap.size+1);obtain⟨hk1_2,hf1_2,hl1_2,hn1_2⟩:=hb1.lay (w.heap.size+1+1))
 have N0:=hide hN0
 have V0:=hide (show ∀b,b∈L0→w.heap.size+2<b from fun b hb=>by have:=hL0 b hb;(try simp only[World.size_alloc,World.size_setCell,World.size_drew,World.heap_drewN]at this);omega)
 have U0:=hide hL0
 have T0:=hide (hQ0.lt)
 have Q0:=hide hQ0
 clear hQ0 hN0 hL0
 go_wp2_with (fail)
 refine Calls.named fun W1 hW1=>?_
 have hB1:Bel w W1:=by rw[←hW1];exact bl
 have hZ1:=hB1.size
 have hY1:w.heap.size+1+1<W1.heap.size:=by rw[←hW1];simp;omega
 have hV1:w1.heap.size≤W1.heap.size:=by rw[←hW1];simp
 have ka1_1:W1.cell? ⟨w.heap.size,1,none⟩=some (.slice A1 x1.length c1):=by rw[←hW1];simp[hk1_0,go_sem] <;> rfl
 have ka1_2:W1.cell? ⟨w.heap.size,2,none⟩=some (.slice A2 x2.length c2):=by rw[←hW1];simp[hk1_0,go_sem] <;> rfl
 have ka1_3:W1.cell? ⟨w.heap.size,3,none⟩=some (.slice A3 x3.length c3):=by rw[←hW1];simp[hk1_0,go_sem] <;> rfl
 have ka1_4:W1.cell? ⟨w.heap.size,4,none⟩=some (.string x4):=by rw[←hW1];simp[hk1_0,go_sem] <;> rfl
 have ka1_5:W1.cell? ⟨w.heap.size,5,none⟩=some (.int .i64 x5):=by rw[←hW1];simp[hk1_0,go_sem] <;> rfl
 have ka1_6:W1.cell? ⟨w.heap.size,6,none⟩=some (.slice A6 x6.length c6):=by rw[←hW1];simp[hk1_0,go_sem] <;> rfl
 have ka1_7:W1.cell? ⟨w.heap.size,7,none⟩=some (.slice A7 x7.length c7):=by rw[←hW1];simp[hk1_0,go_sem] <;> rfl
 have ka1_8:W1.cell? ⟨w.heap.size,8,none⟩=some (.slice A8 x8.length c8):=by rw[←hW1];simp[hk1_0,go_sem] <;> rfl
 have ka1_9:W1.cell? ⟨w.heap.size,9,none⟩=some (.bool x9):=by rw[←hW1];simp[hk1_0,go_sem] <;> rfl
 have ka1_10:W1.cell? ⟨w.heap.size,10,none⟩=some (.int .i64 x10):=by rw[←hW1];simp[hk1_0,go_sem] <;> rfl
 have ka1_11:W1.cell? ⟨w.heap.size,11,none⟩=some (.int .i64 x11):=by rw[←hW1];simp[hk1_0,go_sem] <;> rfl
 have ka1_12:W1.cell? ⟨w.heap.size,12,none⟩=some (.int .i64 x12):=by rw[←hW1];simp[hk1_0,go_sem] <;> rfl
 have fa1:∀o,W1.frozen? ⟨w.heap.size,o,none⟩=false:=by intro o;rw[←hW1];simp[hf1_0,go_sem]
 have kr1_0:W1.cell? ⟨w.heap.size+1,0,none⟩=some (.slice none 0 0):=by rw[←hW1];simp[hk1_1,go_sem] <;> rfl
 have kr1_1:W1.cell? ⟨w.heap.size+1,1,none⟩=some (.slice none 0 0):=by rw[←hW1];simp[hk1_1,go_sem] <;> rfl
 have kr1_2:W1.cell? ⟨w.heap.size+1,2,none⟩=some (.slice none 0 0):=by rw[←hW1];simp[hk1_1,go_sem] <;> rfl
 have kr1_3:W1.cell? ⟨w.heap.size+1,3,none⟩=some (.slice none 0 0):=by rw[←hW1];simp[hk1_1,go_sem] <;> rfl
 have kr1_4:W1.cell? ⟨w.heap.size+1,4,none⟩=some (.string ByteArray.empty):=by rw[←hW1];simp[hk1_1,go_sem] <;> rfl
 have kr1_5:W1.cell? ⟨w.heap.size+1,5,none⟩=some (.int .i64 0):=by rw[←hW1];simp[hk1_1,go_sem] <;> rfl
 have kr1_6:W1.cell? ⟨w.heap.size+1,6,none⟩=some (.slice none 0 0):=by rw[←hW1];simp[hk1_1,go_sem] <;> rfl
 have kr1_7:W1.cell? ⟨w.heap.size+1,7,none⟩=some (.slice none 0 0):=by rw[←hW1];simp[hk1_1,go_sem] <;> rfl
 have kr1_8:W1.cell? ⟨w.heap.size+1,8,none⟩=some (.slice none 0 0):=by rw[←hW1];simp[hk1_1,go_sem] <;> rfl
 have kr1_9:W1.cell? ⟨w.heap.size+1,9,none⟩=some (.bool false):=by rw[←hW1];simp[hk1_1,go_sem] <;> rfl
 have kr1_10:W1.cell? ⟨w.heap.size+1,10,none⟩=some (.int .i64 0):=by rw[←hW1];simp[hk1_1,go_sem] <;> rfl
 have kr1_11:W1.cell? ⟨w.heap.size+1,11,none⟩=some (.int .i64 0):=by rw[←hW1];simp[hk1_1,go_sem] <;> rfl
 have kr1_12:W1.cell? ⟨w.heap.size+1,12,none⟩=some (.int .i64 0):=by rw[←hW1];simp[hk1_1,go_sem] <;> rfl
 have fr1:∀o,W1.frozen? ⟨w.heap.size+1,o,none⟩=false:=by intro o;rw[←hW1];simp[hf1_1,go_sem]
 have ko1_0:W1.cell? ⟨w.heap.size+1+1,0,none⟩=some (.slice B0 x0.length d0):=by rw[←hW1];simp[hk1_2,go_sem] <;> rfl
 have ko1_1:W1.cell? ⟨w.heap.size+1+1,1,none⟩=some (.slice none 0 0):=by rw[←hW1];simp[hk1_2,go_sem] <;> rfl
 have ko1_2:W1.cell? ⟨w.heap.size+1+1,2,none⟩=some (.slice none 0 0):=by rw[←hW1];simp[hk1_2,go_sem] <;> rfl
 have ko1_3:W1.cell? ⟨w.heap.size+1+1,3,none⟩=some (.slice none 0 0):=by rw[←hW1];simp[hk1_2,go_sem] <;> rfl
 have ko1_4:W1.cell? ⟨w.heap.size+1+1,4,none⟩=some (.string ByteArray.empty):=by rw[←hW1];simp[hk1_2,go_sem] <;> rfl
 have ko1_5:W1.cell? ⟨w.heap.size+1+1,5,none⟩=some (.int .i64 0):=by rw[←hW1];simp[hk1_2,go_sem] <;> rfl
 have ko1_6:W1.cell? ⟨w.heap.size+1+1,6,none⟩=some (.slice none 0 0):=by rw[←hW1];simp[hk1_2,go_sem] <;> rfl
 have ko1_7:W1.cell? ⟨w.heap.size+1+1,7,none⟩=some (.slice none 0 0):=by rw[←hW1];simp[hk1_2,go_sem] <;> rfl
 have ko1_8:W1.cell? ⟨w.heap.size+1+1,8,none⟩=some (.slice none 0 0):=by rw[←hW1];simp[hk1_2,go_sem] <;> rfl
 have ko1_9:W1.cell? ⟨w.heap.size+1+1,9,none⟩=some (.bool false):=by rw[←hW1];simp[hk1_2,go_sem] <;> rfl
 have ko1_10:W1.cell? ⟨w.heap.size+1+1,10,none⟩=some (.int .i64 0):=by rw[←hW1];simp[hk1_2,go_sem] <;> rfl
 have ko1_11:W1.cell? ⟨w.heap.size+1+1,11,none⟩=some (.int .i64 0):=by rw[←hW1];simp[hk1_2,go_sem] <;> rfl
 have ko1_12:W1.cell? ⟨w.heap.size+1+1,12,none⟩=some (.int .i64 0):=by rw[←hW1];simp[hk1_2,go_sem] <;> rfl
 have fo1:∀o,W1.frozen? ⟨w.heap.size+1+1,o,none⟩=false:=by intro o;rw[←hW1];simp[hf1_2,go_sem]
 replace Q0:=hide (OwnRow.offS (show OffS (fun b=>w.heap.size+2<b) _ W1 by rw[←hW1];exact osl) (fun b hb=>V0.out b hb) Q0.out)
 clear hW1 hk1_0 hk1_1 hk1_2 hf1_0 hf1_1 hf1_2 hb1
 refine (toRecordTypeSL_any x1 S _ _ _ (Row.bel bl R1.out) hw1).mono ?_
 rintro e w2 ⟨B1,d1,L1,rfl,hQ1,hN1,hL1,hb2⟩
 (have hz2:=hb2.sz;obtain⟨hk2_0,hf2_0,hl2_0,hn2_0⟩:=hb2.lay (w.heap.size);obtain⟨hk2_1,hf2_1,hl2_1,hn2_1⟩:=hb2.lay (w.heap.size+1);obtain⟨hk2_2,hf2_2,hl2_2,hn2_2⟩:=hb2.lay (w.heap.size+1+1))
 have N1:=hide hN1
 have V1:=hide (show ∀b,b∈L1→w.heap.size+2<b from fun b hb=>by have:=hL1 b hb;(try simp only[World.size_alloc,World.size_setCell,World.size_drew,World.heap_drewN]at this);omega)
 have U1:=hide (show ∀b,b∈L1→w1.heap.size≤b from fun b hb=>by have:=hL1 b hb;(try simp only[World.size_alloc,World.size_setCell,World.size_drew,World.heap_drewN]at this);omega)
 have T1:=hide (hQ1.lt)
 have Q1:=hide hQ1
 clear hQ1 hN1 hL1
 go_wp2_with (fail)
 refine Calls.named fun W2 hW2=>?_
 have hB2:Bel w W2:=by rw[←hW2];exact bl
 have hZ2:=hB2.size
 have hY2:w.heap.size+1+1<W2.heap.size:=by rw[←hW2];simp;omega
 have hV2:w2.heap.size≤W2.heap.size:=by rw[←hW2];simp
 have ka2_2:W2.cell? ⟨w.heap.size,2,none⟩=some (.slice A2 x2.length c2):=by rw[←hW2];simp[hk2_0,go_sem,ka1_2] <;> rfl
 have ka2_3:W2.cell? ⟨w.heap.size,3,none⟩=some (.slice A3 x3.length c3):=by rw[←hW2];simp[hk2_0,go_sem,ka1_3] <;> rfl
 have ka2_4:W2.cell? ⟨w.heap.size,4,none⟩=some (.string x4):=by rw[←hW2];simp[hk2_0,go_sem,ka1_4] <;> rfl
 have ka2_5:W2.cell? ⟨w.heap.size,5,none⟩=some (.int .i64 x5):=by rw[←hW2];simp[hk2_0,go_sem,ka1_5] <;> rfl
 have ka2_6:W2.cell? ⟨w.heap.size,6,none⟩=some (.slice A6 x6.length c6):=by rw[←hW2];simp[hk2_0,go_sem,ka1_6] <;> rfl
 have ka2_7:W2.cell? ⟨w.heap.size,7,none⟩=some (.slice A7 x7.length c7):=by rw[←hW2];simp[hk2_0,go_sem,ka1_7] <;> rfl
 have ka2_8:W2.cell? ⟨w.heap.size,8,none⟩=some (.slice A8 x8.length c8):=by rw[←hW2];simp[hk2_0,go_sem,ka1_8] <;> rfl
 have ka2_9:W2.cell? ⟨w.heap.size,9,none⟩=some (.bool x9):=by rw[←hW2];simp[hk2_0,go_sem,ka1_9] <;> rfl
 have ka2_10:W2.cell? ⟨w.heap.size,10,none⟩=some (.int .i64 x10):=by rw[←hW2];simp[hk2_0,go_sem,ka1_10] <;> rfl
 have ka2_11:W2.cell? ⟨w.heap.size,11,none⟩=some (.int .i64 x11):=by rw[←hW2];simp[hk2_0,go_sem,ka1_11] <;> rfl
 have ka2_12:W2.cell? ⟨w.heap.size,12,none⟩=some (.int .i64 x12):=by rw[←hW2];simp[hk2_0,go_sem,ka1_12] <;> rfl
 have fa2:∀o,W2.frozen? ⟨w.heap.size,o,none⟩=false:=by intro o;rw[←hW2];simp[hf2_0,go_sem,fa1]
 have kr2_0:W2.cell? ⟨w.heap.size+1,0,none⟩=some (.slice none 0 0):=by rw[←hW2];simp[hk2_1,go_sem,kr1_0] <;> rfl
 have kr2_1:W2.cell? ⟨w.heap.size+1,1,none⟩=some (.slice none 0 0):=by rw[←hW2];simp[hk2_1,go_sem,kr1_1] <;> rfl
 have kr2_2:W2.cell? ⟨w.heap.size+1,2,none⟩=some (.slice none 0 0):=by rw[←hW2];simp[hk2_1,go_sem,kr1_2] <;> rfl
 have kr2_3:W2.cell? ⟨w.heap.size+1,3,none⟩=some (.slice none 0 0):=by rw[←hW2];simp[hk2_1,go_sem,kr1_3] <;> rfl
 have kr2_4:W2.cell? ⟨w.heap.size+1,4,none⟩=some (.string ByteArray.empty):=by rw[←hW2];simp[hk2_1,go_sem,kr1_4] <;> rfl
 have kr2_5:W2.cell? ⟨w.heap.size+1,5,none⟩=some (.int .i64 0):=by rw[←hW2];simp[hk2_1,go_sem,kr1_5] <;> rfl
 have kr2_6:W2.cell? ⟨w.heap.size+1,6,none⟩=some (.slice none 0 0):=by rw[←hW2];simp[hk2_1,go_sem,kr1_6] <;> rfl
 have kr2_7:W2.cell? ⟨w.heap.size+1,7,none⟩=some (.slice none 0 0):=by rw[←hW2];simp[hk2_1,go_sem,kr1_7] <;> rfl
 have kr2_8:W2.cell? ⟨w.heap.size+1,8,none⟩=some (.slice none 0 0):=by rw[←hW2];simp[hk2_1,go_sem,kr1_8] <;> rfl
 have kr2_9:W2.cell? ⟨w.heap.size+1,9,none⟩=some (.bool false):=by rw[←hW2];simp[hk2_1,go_sem,kr1_9] <;> rfl
 have kr2_10:W2.cell? ⟨w.heap.size+1,10,none⟩=some (.int .i64 0):=by rw[←hW2];simp[hk2_1,go_sem,kr1_10] <;> rfl
 have kr2_11:W2.cell? ⟨w.heap.size+1,11,none⟩=some (.int .i64 0):=by rw[←hW2];simp[hk2_1,go_sem,kr1_11] <;> rfl
 have kr2_12:W2.cell? ⟨w.heap.size+1,12,none⟩=some (.int .i64 0):=by rw[←hW2];simp[hk2_1,go_sem,kr1_12] <;> rfl
 have fr2:∀o,W2.frozen? ⟨w.heap.size+1,o,none⟩=false:=by intro o;rw[←hW2];simp[hf2_1,go_sem,fr1]
 have ko2_0:W2.cell? ⟨w.heap.size+1+1,0,none⟩=some (.slice B0 x0.length d0):=by rw[←hW2];simp[hk2_2,go_sem,ko1_0] <;> rfl
 have ko2_1:W2.cell? ⟨w.heap.size+1+1,1,none⟩=some (.slice B1 x1.length d1):=by rw[←hW2];simp[hk2_2,go_sem,ko1_1] <;> rfl
 have ko2_2:W2.cell? ⟨w.heap.size+1+1,2,none⟩=some (.slice none 0 0):=by rw[←hW2];simp[hk2_2,go_sem,ko1_2] <;> rfl
 have ko2_3:W2.cell? ⟨w.heap.size+1+1,3,none⟩=some (.slice none 0 0):=by rw[←hW2];simp[hk2_2,go_sem,ko1_3] <;> rfl
 have ko2_4:W2.cell? ⟨w.heap.size+1+1,4,none⟩=some (.string ByteArray.empty):=by rw[←hW2];simp[hk2_2,go_sem,ko1_4] <;> rfl
 have ko2_5:W2.cell? ⟨w.heap.size+1+1,5,none⟩=some (.int .i64 0):=by rw[←hW2];simp[hk2_2,go_sem,ko1_5] <;> rfl
 have ko2_6:W2.cell? ⟨w.heap.size+1+1,6,none⟩=some (.slice none 0 0):=by rw[←hW2];simp[hk2_2,go_sem,ko1_6] <;> rfl
 have ko2_7:W2.cell? ⟨w.heap.size+1+1,7,none⟩=some (.slice none 0 0):=by rw[←hW2];simp[hk2_2,go_sem,ko1_7] <;> rfl
 have ko2_8:W2.cell? ⟨w.heap.size+1+1,8,none⟩=some (.slice none 0 0):=by rw[←hW2];simp[hk2_2,go_sem,ko1_8] <;> rfl
 have ko2_9:W2.cell? ⟨w.heap.size+1+1,9,none⟩=some (.bool false):=by rw[←hW2];simp[hk2_2,go_sem,ko1_9] <;> rfl
 have ko2_10:W2.cell? ⟨w.heap.size+1+1,10,none⟩=some (.int .i64 0):=by rw[←hW2];simp[hk2_2,go_sem,ko1_10] <;> rfl
 have ko2_11:W2.cell? ⟨w.heap.size+1+1,11,none⟩=some (.int .i64 0):=by rw[←hW2];simp[hk2_2,go_sem,ko1_11] <;> rfl
 have ko2_12:W2.cell? ⟨w.heap.size+1+1,12,none⟩=some (.int .i64 0):=by rw[←hW2];simp[hk2_2,go_sem,ko1_12] <;> rfl
 have fo2:∀o,W2.frozen? ⟨w.heap.size+1+1,o,none⟩=false:=by intro o;rw[←hW2];simp[hf2_2,go_sem,fo1]
 replace Q0:=hide (OwnRow.offS (show OffS (fun b=>w.heap.size+2<b) _ W2 by rw[←hW2];exact osl) (fun b hb=>V0.out b hb) Q0.out)
 replace Q1:=hide (OwnRow.offS (show OffS (fun b=>w.heap.size+2<b) _ W2 by rw[←hW2];exact osl) (fun b hb=>V1.out b hb) Q1.out)
 clear hW2 hk2_0 hk2_1 hk2_2 hf2_0 hf2_1 hf2_2 hb2 hB1 hY1 fa1 fr1 fo1 kr1_0 kr1_1 kr1_2 kr1_3 kr1_4 kr1_5 kr1_6 kr1_7 kr1_8 kr1_9 kr1_10 kr1_11 kr1_12 ko1_0 ko1_1 ko1_2 ko1_3 ko1_4 ko1_5 ko1_6 ko1_7 ko1_8 ko1_9 ko1_10 ko1_11 ko1_12 ka1_1 ka1_2 ka1_3 ka1_4 ka1_5 ka1_6 ka1_7 ka1_8 ka1_9 ka1_10 ka1_11 ka1_12
 refine (toObjectSL_any x2 S _ _ _ (Row.bel bl R2.out) hw2).mono ?_
 rintro e w3 ⟨B2,d2,L2,rfl,hQ2,hN2,hL2,hb3⟩
 (have hz3:=hb3.sz;obtain⟨hk3_0,hf3_0,hl3_0,hn3_0⟩:=hb3.lay (w.heap.size);obtain⟨hk3_1,hf3_1,hl3_1,hn3_1⟩:=hb3.lay (w.heap.size+1);obtain⟨hk3_2,hf3_2,hl3_2,hn3_2⟩:=hb3.lay (w.heap.size+1+1))
 have N2:=hide hN2
 have V2:=hide (show ∀b,b∈L2→w.heap.size+2<b from fun b hb=>by have:=hL2 b hb;(try simp only[World.size_alloc,World.size_setCell,World.size_drew,World.heap_drewN]at this);omega)
 have U2:=hide (show ∀b,b∈L2→w2.heap.size≤b from fun b hb=>by have:=hL2 b hb;(try simp only[World.size_alloc,World.size_setCell,World.size_drew,World.heap_drewN]at this);omega)
 have T2:=hide (hQ2.lt)
 have Q2:=hide hQ2
 clear hQ2 hN2 hL2
 go_wp2_with (fail)
 refine Calls.named fun W3 hW3=>?_
 have hB3:Bel w W3:=by rw[←hW3];exact bl
 have hZ3:=hB3.size
 have hY3:w.heap.size+1+1<W3.heap.size:=by rw[←hW3];simp;omega
 have hV3:w3.heap.size≤W3.heap.size:=by rw[←hW3];simp
 have ka3_3:W3.cell? ⟨w.heap.size,3,none⟩=some (.slice A3 x3.length c3):=by rw[←hW3];simp[hk3_0,go_sem,ka2_3] <;> rfl
 have ka3_4:W3.cell? ⟨w.heap.size,4,none⟩=some (.string x4):=by rw[←hW3];simp[hk3_0,go_sem,ka2_4] <;> rfl
 have ka3_5:W3.cell? ⟨w.heap.size,5,none⟩=some (.int .i64 x5):=by rw[←hW3];simp[hk3_0,go_sem,ka2_5] <;> rfl
 have ka3_6:W3.cell? ⟨w.heap.size,6,none⟩=some (.slice A6 x6.length c6):=by rw[←hW3];simp[hk3_0,go_sem,ka2_6] <;> rfl
 have ka3_7:W3.cell? ⟨w.heap.size,7,none⟩=some (.slice A7 x7.length c7):=by rw[←hW3];simp[hk3_0,go_sem,ka2_7] <;> rfl
 have ka3_8:W3.cell? ⟨w.heap.size,8,none⟩=some (.slice A8 x8.length c8):=by rw[←hW3];simp[hk3_0,go_sem,ka2_8] <;> rfl
 have ka3_9:W3.cell? ⟨w.heap.size,9,none⟩=some (.bool x9):=by rw[←hW3];simp[hk3_0,go_sem,ka2_9] <;> rfl
 have ka3_10:W3.cell? ⟨w.heap.size,10,none⟩=some (.int .i64 x10):=by rw[←hW3];simp[hk3_0,go_sem,ka2_10] <;> rfl
 have ka3_11:W3.cell? ⟨w.heap.size,11,none⟩=some (.int .i64 x11):=by rw[←hW3];simp[hk3_0,go_sem,ka2_11] <;> rfl
 have ka3_12:W3.cell? ⟨w.heap.size,12,none⟩=some (.int .i64 x12):=by rw[←hW3];simp[hk3_0,go_sem,ka2_12] <;> rfl
 have fa3:∀o,W3.frozen? ⟨w.heap.size,o,none⟩=false:=by intro o;rw[←hW3];simp[hf3_0,go_sem,fa2]
 have kr3_0:W3.cell? ⟨w.heap.size+1,0,none⟩=some (.slice none 0 0):=by rw[←hW3];simp[hk3_1,go_sem,kr2_0] <;> rfl
 have kr3_1:W3.cell? ⟨w.heap.size+1,1,none⟩=some (.slice none 0 0):=by rw[←hW3];simp[hk3_1,go_sem,kr2_1] <;> rfl
 have kr3_2:W3.cell? ⟨w.heap.size+1,2,none⟩=some (.slice none 0 0):=by rw[←hW3];simp[hk3_1,go_sem,kr2_2] <;> rfl
 have kr3_3:W3.cell? ⟨w.heap.size+1,3,none⟩=some (.slice none 0 0):=by rw[←hW3];simp[hk3_1,go_sem,kr2_3] <;> rfl
 have kr3_4:W3.cell? ⟨w.heap.size+1,4,none⟩=some (.string ByteArray.empty):=by rw[←hW3];simp[hk3_1,go_sem,kr2_4] <;> rfl
 have kr3_5:W3.cell? ⟨w.heap.size+1,5,none⟩=some (.int .i64 0):=by rw[←hW3];simp[hk3_1,go_sem,kr2_5] <;> rfl
 have kr3_6:W3.cell? ⟨w.heap.size+1,6,none⟩=some (.slice none 0 0):=by rw[←hW3];simp[hk3_1,go_sem,kr2_6] <;> rfl
 have kr3_7:W3.cell? ⟨w.heap.size+1,7,none⟩=some (.slice none 0 0):=by rw[←hW3];simp[hk3_1,go_sem,kr2_7] <;> rfl
 have kr3_8:W3.cell? ⟨w.heap.size+1,8,none⟩=some (.slice none 0 0):=by rw[←hW3];simp[hk3_1,go_sem,kr2_8] <;> rfl
 have kr3_9:W3.cell? ⟨w.heap.size+1,9,none⟩=some (.bool false):=by rw[←hW3];simp[hk3_1,go_sem,kr2_9] <;> rfl
 have kr3_10:W3.cell? ⟨w.heap.size+1,10,none⟩=some (.int .i64 0):=by rw[←hW3];simp[hk3_1,go_sem,kr2_10] <;> rfl
 have kr3_11:W3.cell? ⟨w.heap.size+1,11,none⟩=some (.int .i64 0):=by rw[←hW3];simp[hk3_1,go_sem,kr2_11] <;> rfl
 have kr3_12:W3.cell? ⟨w.heap.size+1,12,none⟩=some (.int .i64 0):=by rw[←hW3];simp[hk3_1,go_sem,kr2_12] <;> rfl
 have fr3:∀o,W3.frozen? ⟨w.heap.size+1,o,none⟩=false:=by intro o;rw[←hW3];simp[hf3_1,go_sem,fr2]
 have ko3_0:W3.cell? ⟨w.heap.size+1+1,0,none⟩=some (.slice B0 x0.length d0):=by rw[←hW3];simp[hk3_2,go_sem,ko2_0] <;> rfl
 have ko3_1:W3.cell? ⟨w.heap.size+1+1,1,none⟩=some (.slice B1 x1.length d1):=by rw[←hW3];simp[hk3_2,go_sem,ko2_1] <;> rfl
 have ko3_2:W3.cell? ⟨w.heap.size+1+1,2,none⟩=some (.slice B2 x2.length d2):=by rw[←hW3];simp[hk3_2,go_sem,ko2_2] <;> rfl
 have ko3_3:W3.cell? ⟨w.heap.size+1+1,3,none⟩=some (.slice none 0 0):=by rw[←hW3];simp[hk3_2,go_sem,ko2_3] <;> rfl
 have ko3_4:W3.cell? ⟨w.heap.size+1+1,4,none⟩=some (.string ByteArray.empty):=by rw[←hW3];simp[hk3_2,go_sem,ko2_4] <;> rfl
 have ko3_5:W3.cell? ⟨w.heap.size+1+1,5,none⟩=some (.int .i64 0):=by rw[←hW3];simp[hk3_2,go_sem,ko2_5] <;> rfl
 have ko3_6:W3.cell? ⟨w.heap.size+1+1,6,none⟩=some (.slice none 0 0):=by rw[←hW3];simp[hk3_2,go_sem,ko2_6] <;> rfl
 have ko3_7:W3.cell? ⟨w.heap.size+1+1,7,none⟩=some (.slice none 0 0):=by rw[←hW3];simp[hk3_2,go_sem,ko2_7] <;> rfl
 have ko3_8:W3.cell? ⟨w.heap.size+1+1,8,none⟩=some (.slice none 0 0):=by rw[←hW3];simp[hk3_2,go_sem,ko2_8] <;> rfl
 have ko3_9:W3.cell? ⟨w.heap.size+1+1,9,none⟩=some (.bool false):=by rw[←hW3];simp[hk3_2,go_sem,ko2_9] <;> rfl
 have ko3_10:W3.cell? ⟨w.heap.size+1+1,10,none⟩=some (.int .i64 0):=by rw[←hW3];simp[hk3_2,go_sem,ko2_10] <;> rfl
 have ko3_11:W3.cell? ⟨w.heap.size+1+1,11,none⟩=some (.int .i64 0):=by rw[←hW3];simp[hk3_2,go_sem,ko2_11] <;> rfl
 have ko3_12:W3.cell? ⟨w.heap.size+1+1,12,none⟩=some (.int .i64 0):=by rw[←hW3];simp[hk3_2,go_sem,ko2_12] <;> rfl
 have fo3:∀o,W3.frozen? ⟨w.heap.size+1+1,o,none⟩=false:=by intro o;rw[←hW3];simp[hf3_2,go_sem,fo2]
 replace Q0:=hide (OwnRow.offS (show OffS (fun b=>w.heap.size+2<b) _ W3 by rw[←hW3];exact osl) (fun b hb=>V0.out b hb) Q0.out)
 replace Q1:=hide (OwnRow.offS (show OffS (fun b=>w.heap.size+2<b) _ W3 by rw[←hW3];exact osl) (fun b hb=>V1.out b hb) Q1.out)
 replace Q2:=hide (OwnRow.offS (show OffS (fun b=>w.heap.size+2<b) _ W3 by rw[←hW3];exact osl) (fun b hb=>V2.out b hb) Q2.out)
 clear hW3 hk3_0 hk3_1 hk3_2 hf3_0 hf3_1 hf3_2 hb3 hB2 hY2 fa2 fr2 fo2 kr2_0 kr2_1 kr2_2 kr2_3 kr2_4 kr2_5 kr2_6 kr2_7 kr2_8 kr2_9 kr2_10 kr2_11 kr2_12 ko2_0 ko2_1 ko2_2 ko2_3 ko2_4 ko2_5 ko2_6 ko2_7 ko2_8 ko2_9 ko2_10 ko2_11 ko2_12 ka2_2 ka2_3 ka2_4 ka2_5 ka2_6 ka2_7 ka2_8 ka2_9 ka2_10 ka2_11 ka2_12
 refine (toValueSL_any x3 S _ _ _ (Row.bel bl R3.out) hw3).mono ?_
 rintro e w4 ⟨B3,d3,L3,rfl,hQ3,hN3,hL3,hb4⟩
 (have hz4:=hb4.sz;obtain⟨hk4_0,hf4_0,hl4_0,hn4_0⟩:=hb4.lay (w.heap.size);obtain⟨hk4_1,hf4_1,hl4_1,hn4_1⟩:=hb4.lay (w.heap.size+1);obtain⟨hk4_2,hf4_2,hl4_2,hn4_2⟩:=hb4.lay (w.heap.size+1+1))
 have N3:=hide hN3
 have V3:=hide (show ∀b,b∈L3→w.heap.size+2<b from fun b hb=>by have:=hL3 b hb;(try simp only[World.size_alloc,World.size_setCell,World.size_drew,World.heap_drewN]at this);omega)
 have U3:=hide (show ∀b,b∈L3→w3.heap.size≤b from fun b hb=>by have:=hL3 b hb;(try simp only[World.size_alloc,World.size_setCell,World.size_drew,World.heap_drewN]at this);omega)
 have T3:=hide (hQ3.lt)
 have Q3:=hide hQ3
 clear hQ3 hN3 hL3
 go_wp2_with (fail)
 refine Calls.named fun W4 hW4=>?_
 have hB4:Bel w W4:=by rw[←hW4];exact bl
 have hZ4:=hB4.size
 have hY4:w.heap.size+1+1<W4.heap.size:=by rw[←hW4];simp;omega
 have hV4:w4.heap.size≤W4.heap.size:=by rw[←hW4];simp
 have ka4_6:W4.cell? ⟨w.heap.size,6,none⟩=some (.slice A6 x6.length c6):=by rw[←hW4];simp[hk4_0,go_sem,ka3_6] <;> rfl
 have ka4_7:W4.cell? ⟨w.heap.size,7,none⟩=some (.slice A7 x7.length c7):=by rw[←hW4];simp[hk4_0,go_sem,ka3_7] <;> rfl
 have ka4_8:W4.cell? ⟨w.heap.size,8,none⟩=some (.slice A8 x8.length c8):=by rw[←hW4];simp[hk4_0,go_sem,ka3_8] <;> rfl
 have ka4_9:W4.cell? ⟨w.heap.size,9,none⟩=some (.bool x9):=by rw[←hW4];simp[hk4_0,go_sem,ka3_9] <;> rfl
 have ka4_10:W4.cell? ⟨w.heap.size,10,none⟩=some (.int .i64 x10):=by rw[←hW4];simp[hk4_0,go_sem,ka3_10] <;> rfl
 have ka4_11:W4.cell? ⟨w.heap.size,11,none⟩=some (.int .i64 x11):=by rw[←hW4];simp[hk4_0,go_sem,ka3_11] <;> rfl
 have ka4_12:W4.cell? ⟨w.heap.size,12,none⟩=some (.int .i64 x12):=by rw[←hW4];simp[hk4_0,go_sem,ka3_12] <;> rfl
 have fa4:∀o,W4.frozen? ⟨w.heap.size,o,none⟩=false:=by intro o;rw[←hW4];simp[hf4_0,go_sem,fa3]
 have kr4_0:W4.cell? ⟨w.heap.size+1,0,none⟩=some (.slice none 0 0):=by rw[←hW4];simp[hk4_1,go_sem,kr3_0] <;> rfl
 have kr4_1:W4.cell? ⟨w.heap.size+1,1,none⟩=some (.slice none 0 0):=by rw[←hW4];simp[hk4_1,go_sem,kr3_1] <;> rfl
 have kr4_2:W4.cell? ⟨w.heap.size+1,2,none⟩=some (.slice none 0 0):=by rw[←hW4];simp[hk4_1,go_sem,kr3_2] <;> rfl
 have kr4_3:W4.cell? ⟨w.heap.size+1,3,none⟩=some (.slice none 0 0):=by rw[←hW4];simp[hk4_1,go_sem,kr3_3] <;> rfl
 have kr4_4:W4.cell? ⟨w.heap.size+1,4,none⟩=some (.string ByteArray.empty):=by rw[←hW4];simp[hk4_1,go_sem,kr3_4] <;> rfl
 have kr4_5:W4.cell? ⟨w.heap.size+1,5,none⟩=some (.int .i64 0):=by rw[←hW4];simp[hk4_1,go_sem,kr3_5] <;> rfl
 have kr4_6:W4.cell? ⟨w.heap.size+1,6,none⟩=some (.slice none 0 0):=by rw[←hW4];simp[hk4_1,go_sem,kr3_6] <;> rfl
 have kr4_7:W4.cell? ⟨w.heap.size+1,7,none⟩=some (.slice none 0 0):=by rw[←hW4];simp[hk4_1,go_sem,kr3_7] <;> rfl
 have kr4_8:W4.cell? ⟨w.heap.size+1,8,none⟩=some (.slice none 0 0):=by rw[←hW4];simp[hk4_1,go_sem,kr3_8] <;> rfl
 have kr4_9:W4.cell? ⟨w.heap.size+1,9,none⟩=some (.bool false):=by rw[←hW4];simp[hk4_1,go_sem,kr3_9] <;> rfl
 have kr4_10:W4.cell? ⟨w.heap.size+1,10,none⟩=some (.int .i64 0):=by rw[←hW4];simp[hk4_1,go_sem,kr3_10] <;> rfl
 have kr4_11:W4.cell? ⟨w.heap.size+1,11,none⟩=some (.int .i64 0):=by rw[←hW4];simp[hk4_1,go_sem,kr3_11] <;> rfl
 have kr4_12:W4.cell? ⟨w.heap.size+1,12,none⟩=some (.int .i64 0):=by rw[←hW4];simp[hk4_1,go_sem,kr3_12] <;> rfl
 have fr4:∀o,W4.frozen? ⟨w.heap.size+1,o,none⟩=false:=by intro o;rw[←hW4];simp[hf4_1,go_sem,fr3]
 have ko4_0:W4.cell? ⟨w.heap.size+1+1,0,none⟩=some (.slice B0 x0.length d0):=by rw[←hW4];simp[hk4_2,go_sem,ko3_0] <;> rfl
 have ko4_1:W4.cell? ⟨w.heap.size+1+1,1,none⟩=some (.slice B1 x1.length d1):=by rw[←hW4];simp[hk4_2,go_sem,ko3_1] <;> rfl
 have ko4_2:W4.cell? ⟨w.heap.size+1+1,2,none⟩=some (.slice B2 x2.length d2):=by rw[←hW4];simp[hk4_2,go_sem,ko3_2] <;> rfl
 have ko4_3:W4.cell? ⟨w.heap.size+1+1,3,none⟩=some (.slice B3 x3.length d3):=by rw[←hW4];simp[hk4_2,go_sem,ko3_3] <;> rfl
 have ko4_4:W4.cell? ⟨w.heap.size+1+1,4,none⟩=some (.string x4):=by rw[←hW4];simp[hk4_2,go_sem,ko3_4] <;> rfl
 have ko4_5:W4.cell? ⟨w.heap.size+1+1,5,none⟩=some (.int .i64 x5):=by rw[←hW4];simp[hk4_2,go_sem,ko3_5] <;> rfl
 have ko4_6:W4.cell? ⟨w.heap.size+1+1,6,none⟩=some (.slice none 0 0):=by rw[←hW4];simp[hk4_2,go_sem,ko3_6] <;> rfl
 have ko4_7:W4.cell? ⟨w.heap.size+1+1,7,none⟩=some (.slice none 0 0):=by rw[←hW4];simp[hk4_2,go_sem,ko3_7] <;> rfl
 have ko4_8:W4.cell? ⟨w.heap.size+1+1,8,none⟩=some (.slice none 0 0):=by rw[←hW4];simp[hk4_2,go_sem,ko3_8] <;> rfl
 have ko4_9:W4.cell? ⟨w.heap.size+1+1,9,none⟩=some (.bool false):=by rw[←hW4];simp[hk4_2,go_sem,ko3_9] <;> rfl
 have ko4_10:W4.cell? ⟨w.heap.size+1+1,10,none⟩=some (.int .i64 0):=by rw[←hW4];simp[hk4_2,go_sem,ko3_10] <;> rfl
 have ko4_11:W4.cell? ⟨w.heap.size+1+1,11,none⟩=some (.int .i64 0):=by rw[←hW4];simp[hk4_2,go_sem,ko3_11] <;> rfl
 have ko4_12:W4.cell? ⟨w.heap.size+1+1,12,none⟩=some (.int .i64 0):=by rw[←hW4];simp[hk4_2,go_sem,ko3_12] <;> rfl
 have fo4:∀o,W4.frozen? ⟨w.heap.size+1+1,o,none⟩=false:=by intro o;rw[←hW4];simp[hf4_2,go_sem,fo3]
 replace Q0:=hide (OwnRow.offS (show OffS (fun b=>w.heap.size+2<b) _ W4 by rw[←hW4];exact osl) (fun b hb=>V0.out b hb) Q0.out)
 replace Q1:=hide (OwnRow.offS (show OffS (fun b=>w.heap.size+2<b) _ W4 by rw[←hW4];exact osl) (fun b hb=>V1.out b hb) Q1.out)
 replace Q2:=hide (OwnRow.offS (show OffS (fun b=>w.heap.size+2<b) _ W4 by rw[←hW4];exact osl) (fun b hb=>V2.out b hb) Q2.out)
 replace Q3:=hide (OwnRow.offS (show OffS (fun b=>w.heap.size+2<b) _ W4 by rw[←hW4];exact osl) (fun b hb=>V3.out b hb) Q3.out)
 clear hW4 hk4_0 hk4_1 hk4_2 hf4_0 hf4_1 hf4_2 hb4 hB3 hY3 fa3 fr3 fo3 kr3_0 kr3_1 kr3_2 kr3_3 kr3_4 kr3_5 kr3_6 kr3_7 kr3_8 kr3_9 kr3_10 kr3_11 kr3_12 ko3_0 ko3_1 ko3_2 ko3_3 ko3_4 ko3_5 ko3_6 ko3_7 ko3_8 ko3_9 ko3_10 ko3_11 ko3_12 ka3_3 ka3_4 ka3_5 ka3_6 ka3_7 ka3_8 ka3_9 ka3_10 ka3_11 ka3_12
 refine (toStringSL_any x6 S _ _ _ (Row.bel bl R6.out) hw6).mono ?_
 rintro e w5 ⟨B6,d6,L6,rfl,hQ6,hN6,hL6,hb5⟩
 (have hz5:=hb5.sz;obtain⟨hk5_0,hf5_0,hl5_0,hn5_0⟩:=hb5.lay (w.heap.size);obtain⟨hk5_1,hf5_1,hl5_1,hn5_1⟩:=hb5.lay (w.heap.size+1);obtain⟨hk5_2,hf5_2,hl5_2,hn5_2⟩:=hb5.lay (w.heap.size+1+1))
 have N6:=hide hN6
 have V6:=hide (show ∀b,b∈L6→w.heap.size+2<b from fun b hb=>by have:=hL6 b hb;(try simp only[World.size_alloc,World.size_setCell,World.size_drew,World.heap_drewN]at this);omega)
 have U6:=hide (show ∀b,b∈L6→w4.heap.size≤b from fun b hb=>by have:=hL6 b hb;(try simp only[World.size_alloc,World.size_setCell,World.size_drew,World.heap_drewN]at this);omega)
 have T6:=hide (hQ6.lt)
 have Q6:=hide hQ6
 clear hQ6 hN6 hL6
 go_wp2_with (fail)
 refine Calls.named fun W5 hW5=>?_
 have hB5:Bel w W5:=by rw[←hW5];exact bl
 have hZ5:=hB5.size
 have hY5:w.heap.size+1+1<W5.heap.size:=by rw[←hW5];simp;omega
 have hV5:w5.heap.size≤W5.heap.size:=by rw[←hW5];simp
 have ka5_7:W5.cell? ⟨w.heap.size,7,none⟩=some (.slice A7 x7.length c7):=by rw[←hW5];simp[hk5_0,go_sem,ka4_7] <;> rfl
 have ka5_8:W5.cell? ⟨w.heap.size,8,none⟩=some (.slice A8 x8.length c8):=by rw[←hW5];simp[hk5_0,go_sem,ka4_8] <;> rfl
 have ka5_9:W5.cell? ⟨w.heap.size,9,none⟩=some (.bool x9):=by rw[←hW5];simp[hk5_0,go_sem,ka4_9] <;> rfl
 have ka5_10:W5.cell? ⟨w.heap.size,10,none⟩=some (.int .i64 x10):=by rw[←hW5];simp[hk5_0,go_sem,ka4_10] <;> rfl
 have ka5_11:W5.cell? ⟨w.heap.size,11,none⟩=some (.int .i64 x11):=by rw[←hW5];simp[hk5_0,go_sem,ka4_11] <;> rfl
 have ka5_12:W5.cell? ⟨w.heap.size,12,none⟩=some (.int .i64 x12):=by rw[←hW5];simp[hk5_0,go_sem,ka4_12] <;> rfl
 have fa5:∀o,W5.frozen? ⟨w.heap.size,o,none⟩=false:=by intro o;rw[←hW5];simp[hf5_0,go_sem,fa4]
 have kr5_0:W5.cell? ⟨w.heap.size+1,0,none⟩=some (.slice none 0 0):=by rw[←hW5];simp[hk5_1,go_sem,kr4_0] <;> rfl
 have kr5_1:W5.cell? ⟨w.heap.size+1,1,none⟩=some (.slice none 0 0):=by rw[←hW5];simp[hk5_1,go_sem,kr4_1] <;> rfl
 have kr5_2:W5.cell? ⟨w.heap.size+1,2,none⟩=some (.slice none 0 0):=by rw[←hW5];simp[hk5_1,go_sem,kr4_2] <;> rfl
 have kr5_3:W5.cell? ⟨w.heap.size+1,3,none⟩=some (.slice none 0 0):=by rw[←hW5];simp[hk5_1,go_sem,kr4_3] <;> rfl
 have kr5_4:W5.cell? ⟨w.heap.size+1,4,none⟩=some (.string ByteArray.empty):=by rw[←hW5];simp[hk5_1,go_sem,kr4_4] <;> rfl
 have kr5_5:W5.cell? ⟨w.heap.size+1,5,none⟩=some (.int .i64 0):=by rw[←hW5];simp[hk5_1,go_sem,kr4_5] <;> rfl
 have kr5_6:W5.cell? ⟨w.heap.size+1,6,none⟩=some (.slice none 0 0):=by rw[←hW5];simp[hk5_1,go_sem,kr4_6] <;> rfl
 have kr5_7:W5.cell? ⟨w.heap.size+1,7,none⟩=some (.slice none 0 0):=by rw[←hW5];simp[hk5_1,go_sem,kr4_7] <;> rfl
 have kr5_8:W5.cell? ⟨w.heap.size+1,8,none⟩=some (.slice none 0 0):=by rw[←hW5];simp[hk5_1,go_sem,kr4_8] <;> rfl
 have kr5_9:W5.cell? ⟨w.heap.size+1,9,none⟩=some (.bool false):=by rw[←hW5];simp[hk5_1,go_sem,kr4_9] <;> rfl
 have kr5_10:W5.cell? ⟨w.heap.size+1,10,none⟩=some (.int .i64 0):=by rw[←hW5];simp[hk5_1,go_sem,kr4_10] <;> rfl
 have kr5_11:W5.cell? ⟨w.heap.size+1,11,none⟩=some (.int .i64 0):=by rw[←hW5];simp[hk5_1,go_sem,kr4_11] <;> rfl
 have kr5_12:W5.cell? ⟨w.heap.size+1,12,none⟩=some (.int .i64 0):=by rw[←hW5];simp[hk5_1,go_sem,kr4_12] <;> rfl
 have fr5:∀o,W5.frozen? ⟨w.heap.size+1,o,none⟩=false:=by intro o;rw[←hW5];simp[hf5_1,go_sem,fr4]
 have ko5_0:W5.cell? ⟨w.heap.size+1+1,0,none⟩=some (.slice B0 x0.length d0):=by rw[←hW5];simp[hk5_2,go_sem,ko4_0] <;> rfl
 have ko5_1:W5.cell? ⟨w.heap.size+1+1,1,none⟩=some (.slice B1 x1.length d1):=by rw[←hW5];simp[hk5_2,go_sem,ko4_1] <;> rfl
 have ko5_2:W5.cell? ⟨w.heap.size+1+1,2,none⟩=some (.slice B2 x2.length d2):=by rw[←hW5];simp[hk5_2,go_sem,ko4_2] <;> rfl
 have ko5_3:W5.cell? ⟨w.heap.size+1+1,3,none⟩=some (.slice B3 x3.length d3):=by rw[←hW5];simp[hk5_2,go_sem,ko4_3] <;> rfl
 have ko5_4:W5.cell? ⟨w.heap.size+1+1,4,none⟩=some (.string x4):=by rw[←hW5];simp[hk5_2,go_sem,ko4_4] <;> rfl
 have ko5_5:W5.cell? ⟨w.heap.size+1+1,5,none⟩=some (.int .i64 x5):=by rw[←hW5];simp[hk5_2,go_sem,ko4_5] <;> rfl
 have ko5_6:W5.cell? ⟨w.heap.size+1+1,6,none⟩=some (.slice B6 x6.length d6):=by rw[←hW5];simp[hk5_2,go_sem,ko4_6] <;> rfl
 have ko5_7:W5.cell? ⟨w.heap.size+1+1,7,none⟩=some (.slice none 0 0):=by rw[←hW5];simp[hk5_2,go_sem,ko4_7] <;> rfl
 have ko5_8:W5.cell? ⟨w.heap.size+1+1,8,none⟩=some (.slice none 0 0):=by rw[←hW5];simp[hk5_2,go_sem,ko4_8] <;> rfl
 have ko5_9:W5.cell? ⟨w.heap.size+1+1,9,none⟩=some (.bool false):=by rw[←hW5];simp[hk5_2,go_sem,ko4_9] <;> rfl
 have ko5_10:W5.cell? ⟨w.heap.size+1+1,10,none⟩=some (.int .i64 0):=by rw[←hW5];simp[hk5_2,go_sem,ko4_10] <;> rfl
 have ko5_11:W5.cell? ⟨w.heap.size+1+1,11,none⟩=some (.int .i64 0):=by rw[←hW5];simp[hk5_2,go_sem,ko4_11] <;> rfl
 have ko5_12:W5.cell? ⟨w.heap.size+1+1,12,none⟩=some (.int .i64 0):=by rw[←hW5];simp[hk5_2,go_sem,ko4_12] <;> rfl
 have fo5:∀o,W5.frozen? ⟨w.heap.size+1+1,o,none⟩=false:=by intro o;rw[←hW5];simp[hf5_2,go_sem,fo4]
 replace Q0:=hide (OwnRow.offS (show OffS (fun b=>w.heap.size+2<b) _ W5 by rw[←hW5];exact osl) (fun b hb=>V0.out b hb) Q0.out)
 replace Q1:=hide (OwnRow.offS (show OffS (fun b=>w.heap.size+2<b) _ W5 by rw[←hW5];exact osl) (fun b hb=>V1.out b hb) Q1.out)
 replace Q2:=hide (OwnRow.offS (show OffS (fun b=>w.heap.size+2<b) _ W5 by rw[←hW5];exact osl) (fun b hb=>V2.out b hb) Q2.out)
 replace Q3:=hide (OwnRow.offS (show OffS (fun b=>w.heap.size+2<b) _ W5 by rw[←hW5];exact osl) (fun b hb=>V3.out b hb) Q3.out)
 replace Q6:=hide (OwnRow.offS (show OffS (fun b=>w.heap.size+2<b) _ W5 by rw[←hW5];exact osl) (fun b hb=>V6.out b hb) Q6.out)
 clear hW5 hk5_0 hk5_1 hk5_2 hf5_0 hf5_1 hf5_2 hb5 hB4 hY4 fa4 fr4 fo4 kr4_0 kr4_1 kr4_2 kr4_3 kr4_4 kr4_5 kr4_6 kr4_7 kr4_8 kr4_9 kr4_10 kr4_11 kr4_12 ko4_0 ko4_1 ko4_2 ko4_3 ko4_4 ko4_5 ko4_6 ko4_7 ko4_8 ko4_9 ko4_10 ko4_11 ko4_12 ka4_6 ka4_7 ka4_8 ka4_9 ka4_10 ka4_11 ka4_12
 refine (toStringSL_any x7 S _ _ _ (Row.bel bl R7.out) hw7).mono ?_
 rintro e w6 ⟨B7,d7,L7,rfl,hQ7,hN7,hL7,hb6⟩
 (have hz6:=hb6.sz;obtain⟨hk6_0,hf6_0,hl6_0,hn6_0⟩:=hb6.lay (w.heap.size);obtain⟨hk6_1,hf6_1,hl6_1,hn6_1⟩:=hb6.lay (w.heap.size+1);obtain⟨hk6_2,hf6_2,hl6_2,hn6_2⟩:=hb6.lay (w.heap.size+1+1))
 have N7:=hide hN7
 have V7:=hide (show ∀b,b∈L7→w.heap.size+2<b from fun b hb=>by have:=hL7 b hb;(try simp only[World.size_alloc,World.size_setCell,World.size_drew,World.heap_drewN]at this);omega)
 have U7:=hide (show ∀b,b∈L7→w5.heap.size≤b from fun b hb=>by have:=hL7 b hb;(try simp only[World.size_alloc,World.size_setCell,World.size_drew,World.heap_drewN]at this);omega)
 have T7:=hide (hQ7.lt)
 have Q7:=hide hQ7
 clear hQ7 hN7 hL7
 go_wp2_with (fail)
 refine Calls.named fun W6 hW6=>?_
 have hB6:Bel w W6:=by rw[←hW6];exact bl
 have hZ6:=hB6.size
 have hY6:w.heap.size+1+1<W6.heap.size:=by rw[←hW6];simp;omega
 have hV6:w6.heap.size≤W6.heap.size:=by rw[←hW6];simp
 have ka6_8:W6.cell? ⟨w.heap.size,8,none⟩=some (.slice A8 x8.length c8):=by rw[←hW6];simp[hk6_0,go_sem,ka5_8] <;> rfl
 have ka6_9:W6.cell? ⟨w.heap.size,9,none⟩=some (.bool x9):=by rw[←hW6];simp[hk6_0,go_sem,ka5_9] <;> rfl
 have ka6_10:W6.cell? ⟨w.heap.size,10,none⟩=some (.int .i64 x10):=by rw[←hW6];simp[hk6_0,go_sem,ka5_10] <;> rfl
 have ka6_11:W6.cell? ⟨w.heap.size,11,none⟩=some (.int .i64 x11):=by rw[←hW6];simp[hk6_0,go_sem,ka5_11] <;> rfl
 have ka6_12:W6.cell? ⟨w.heap.size,12,none⟩=some (.int .i64 x12):=by rw[←hW6];simp[hk6_0,go_sem,ka5_12] <;> rfl
 have fa6:∀o,W6.frozen? ⟨w.heap.size,o,none⟩=false:=by intro o;rw[←hW6];simp[hf6_0,go_sem,fa5]
 have kr6_0:W6.cell? ⟨w.heap.size+1,0,none⟩=some (.slice none 0 0):=by rw[←hW6];simp[hk6_1,go_sem,kr5_0] <;> rfl
 have kr6_1:W6.cell? ⟨w.heap.size+1,1,none⟩=some (.slice none 0 0):=by rw[←hW6];simp[hk6_1,go_sem,kr5_1] <;> rfl
 have kr6_2:W6.cell? ⟨w.heap.size+1,2,none⟩=some (.slice none 0 0):=by rw[←hW6];simp[hk6_1,go_sem,kr5_2] <;> rfl
 have kr6_3:W6.cell? ⟨w.heap.size+1,3,none⟩=some (.slice none 0 0):=by rw[←hW6];simp[hk6_1,go_sem,kr5_3] <;> rfl
 have kr6_4:W6.cell? ⟨w.heap.size+1,4,none⟩=some (.string ByteArray.empty):=by rw[←hW6];simp[hk6_1,go_sem,kr5_4] <;> rfl
 have kr6_5:W6.cell? ⟨w.heap.size+1,5,none⟩=some (.int .i64 0):=by rw[←hW6];simp[hk6_1,go_sem,kr5_5] <;> rfl
 have kr6_6:W6.cell? ⟨w.heap.size+1,6,none⟩=some (.slice none 0 0):=by rw[←hW6];simp[hk6_1,go_sem,kr5_6] <;> rfl
 have kr6_7:W6.cell? ⟨w.heap.size+1,7,none⟩=some (.slice none 0 0):=by rw[←hW6];simp[hk6_1,go_sem,kr5_7] <;> rfl
 have kr6_8:W6.cell? ⟨w.heap.size+1,8,none⟩=some (.slice none 0 0):=by rw[←hW6];simp[hk6_1,go_sem,kr5_8] <;> rfl
 have kr6_9:W6.cell? ⟨w.heap.size+1,9,none⟩=some (.bool false):=by rw[←hW6];simp[hk6_1,go_sem,kr5_9] <;> rfl
 have kr6_10:W6.cell? ⟨w.heap.size+1,10,none⟩=some (.int .i64 0):=by rw[←hW6];simp[hk6_1,go_sem,kr5_10] <;> rfl
 have kr6_11:W6.cell? ⟨w.heap.size+1,11,none⟩=some (.int .i64 0):=by rw[←hW6];simp[hk6_1,go_sem,kr5_11] <;> rfl
 have kr6_12:W6.cell? ⟨w.heap.size+1,12,none⟩=some (.int .i64 0):=by rw[←hW6];simp[hk6_1,go_sem,kr5_12] <;> rfl
 have fr6:∀o,W6.frozen? ⟨w.heap.size+1,o,none⟩=false:=by intro o;rw[←hW6];simp[hf6_1,go_sem,fr5]
 have ko6_0:W6.cell? ⟨w.heap.size+1+1,0,none⟩=some (.slice B0 x0.length d0):=by rw[←hW6];simp[hk6_2,go_sem,ko5_0] <;> rfl
 have ko6_1:W6.cell? ⟨w.heap.size+1+1,1,none⟩=some (.slice B1 x1.length d1):=by rw[←hW6];simp[hk6_2,go_sem,ko5_1] <;> rfl
 have ko6_2:W6.cell? ⟨w.heap.size+1+1,2,none⟩=some (.slice B2 x2.length d2):=by rw[←hW6];simp[hk6_2,go_sem,ko5_2] <;> rfl
 have ko6_3:W6.cell? ⟨w.heap.size+1+1,3,none⟩=some (.slice B3 x3.length d3):=by rw[←hW6];simp[hk6_2,go_sem,ko5_3] <;> rfl
 have ko6_4:W6.cell? ⟨w.heap.size+1+1,4,none⟩=some (.string x4):=by rw[←hW6];simp[hk6_2,go_sem,ko5_4] <;> rfl
 have ko6_5:W6.cell? ⟨w.heap.size+1+1,5,none⟩=some (.int .i64 x5):=by rw[←hW6];simp[hk6_2,go_sem,ko5_5] <;> rfl
 have ko6_6:W6.cell? ⟨w.heap.size+1+1,6,none⟩=some (.slice B6 x6.length d6):=by rw[←hW6];simp[hk6_2,go_sem,ko5_6] <;> rfl
 have ko6_7:W6.cell? ⟨w.heap.size+1+1,7,none⟩=some (.slice B7 x7.length d7):=by rw[←hW6];simp[hk6_2,go_sem,ko5_7] <;> rfl
 have ko6_8:W6.cell? ⟨w.heap.size+1+1,8,none⟩=some (.slice none 0 0):=by rw[←hW6];simp[hk6_2,go_sem,ko5_8] <;> rfl
 have ko6_9:W6.cell? ⟨w.heap.size+1+1,9,none⟩=some (.bool false):=by rw[←hW6];simp[hk6_2,go_sem,ko5_9] <;> rfl
 have ko6_10:W6.cell? ⟨w.heap.size+1+1,10,none⟩=some (.int .i64 0):=by rw[←hW6];simp[hk6_2,go_sem,ko5_10] <;> rfl
 have ko6_11:W6.cell? ⟨w.heap.size+1+1,11,none⟩=some (.int .i64 0):=by rw[←hW6];simp[hk6_2,go_sem,ko5_11] <;> rfl
 have ko6_12:W6.cell? ⟨w.heap.size+1+1,12,none⟩=some (.int .i64 0):=by rw[←hW6];simp[hk6_2,go_sem,ko5_12] <;> rfl
 have fo6:∀o,W6.frozen? ⟨w.heap.size+1+1,o,none⟩=false:=by intro o;rw[←hW6];simp[hf6_2,go_sem,fo5]
 replace Q0:=hide (OwnRow.offS (show OffS (fun b=>w.heap.size+2<b) _ W6 by rw[←hW6];exact osl) (fun b hb=>V0.out b hb) Q0.out)
 replace Q1:=hide (OwnRow.offS (show OffS (fun b=>w.heap.size+2<b) _ W6 by rw[←hW6];exact osl) (fun b hb=>V1.out b hb) Q1.out)
 replace Q2:=hide (OwnRow.offS (show OffS (fun b=>w.heap.size+2<b) _ W6 by rw[←hW6];exact osl) (fun b hb=>V2.out b hb) Q2.out)
 replace Q3:=hide (OwnRow.offS (show OffS (fun b=>w.heap.size+2<b) _ W6 by rw[←hW6];exact osl) (fun b hb=>V3.out b hb) Q3.out)
 replace Q6:=hide (OwnRow.offS (show OffS (fun b=>w.heap.size+2<b) _ W6 by rw[←hW6];exact osl) (fun b hb=>V6.out b hb) Q6.out)
 replace Q7:=hide (OwnRow.offS (show OffS (fun b=>w.heap.size+2<b) _ W6 by rw[←hW6];exact osl) (fun b hb=>V7.out b hb) Q7.out)
 clear hW6 hk6_0 hk6_1 hk6_2 hf6_0 hf6_1 hf6_2 hb6 hB5 hY5 fa5 fr5 fo5 kr5_0 kr5_1 kr5_2 kr5_3 kr5_4 kr5_5 kr5_6 kr5_7 kr5_8 kr5_9 kr5_10 kr5_11 kr5_12 ko5_0 ko5_1 ko5_2 ko5_3 ko5_4 ko5_5 ko5_6 ko5_7 ko5_8 ko5_9 ko5_10 ko5_11 ko5_12 ka5_7 ka5_8 ka5_9 ka5_10 ka5_11 ka5_12
 refine (toActiveSL_any x8 S _ _ _ (Row.bel bl R8.out) hw8).mono ?_
 rintro e w7 ⟨B8,d8,L8,rfl,hQ8,hN8,hL8,hb7⟩
 (have hz7:=hb7.sz;obtain⟨hk7_0,hf7_0,hl7_0,hn7_0⟩:=hb7.lay (w.heap.size);obtain⟨hk7_1,hf7_1,hl7_1,hn7_1⟩:=hb7.lay (w.heap.size+1);obtain⟨hk7_2,hf7_2,hl7_2,hn7_2⟩:=hb7.lay (w.heap.size+1+1))
 have N8:=hide hN8
 have V8:=hide (show ∀b,b∈L8→w.heap.size+2<b from fun b hb=>by have:=hL8 b hb;(try simp only[World.size_alloc,World.size_setCell,World.size_drew,World.heap_drewN]at this);omega)
 have U8:=hide (show ∀b,b∈L8→w6.heap.size≤b from fun b hb=>by have:=hL8 b hb;(try simp only[World.size_alloc,World.size_setCell,World.size_drew,World.heap_drewN]at this);omega)
 have T8:=hide (hQ8.lt)
 have Q8:=hide hQ8
 clear hQ8 hN8 hL8
 go_wp2_with (fail)
 exact bodyPost_ret (v:=.agg #[.slice B0 x0.length d0,.slice B1 x1.length d1,.slice B2 x2.length d2,.slice B3 x3.length d3,.string x4,.int .i64 x5,.slice B6 x6.length d6,.slice B7 x7.length d7,.slice B8 x8.length d8,.bool x9,.int .i64 x10,.int .i64 x11,.int .i64 x12]) (by simp[results,Tryz.results7,go_sem,hk7_1,hf7_1,hk7_2,hf7_2,kr6_0,kr6_1,kr6_2,kr6_3,kr6_4,kr6_5,kr6_6,kr6_7,kr6_8,kr6_9,kr6_10,kr6_11,kr6_12,ko6_0,ko6_1,ko6_2,ko6_3,ko6_4,ko6_5,ko6_6,ko6_7,ko6_8,ko6_9,ko6_10,ko6_11,ko6_12,fr6,fo6]) rfl
  ⟨[.slice B0 x0.length d0,.slice B1 x1.length d1,.slice B2 x2.length d2,.slice B3 x3.length d3,.string x4,.int .i64 x5,.slice B6 x6.length d6,.slice B7 x7.length d7,.slice B8 x8.length d8,.bool x9,.int .i64 x10,.int .i64 x11,.int .i64 x12],L0++(L1++(L2++(L3++(L6++(L7++L8))))),rfl,TStore.own_mk (OwnRow.offS (S:=fun b=>w.heap.size+2<b) osl (fun b hb=>V0.out b hb) Q0.out) (OwnRow.offS (S:=fun b=>w.heap.size+2<b) osl (fun b hb=>V1.out b hb) Q1.out) (OwnRow.offS (S:=fun b=>w.heap.size+2<b) osl (fun b hb=>V2.out b hb) Q2.out) (OwnRow.offS (S:=fun b=>w.heap.size+2<b) osl (fun b hb=>V3.out b hb) Q3.out) (by unfold maxLen;omega) g5 (OwnRow.offS (S:=fun b=>w.heap.size+2<b) osl (fun b hb=>V6.out b hb) Q6.out) (OwnRow.offS (S:=fun b=>w.heap.size+2<b) osl (fun b hb=>V7.out b hb) Q7.out) (OwnRow.offS (S:=fun b=>w.heap.size+2<b) osl (fun b hb=>V8.out b hb) Q8.out) g10 g11 g12,nodup_app_lt (n:=w1.heap.size) N0.out (nodup_app_lt (n:=w2.heap.size) N1.out (nodup_app_lt (n:=w3.heap.size) N2.out (nodup_app_lt (n:=w4.heap.size) N3.out (nodup_app_lt (n:=w5.heap.size) N6.out (nodup_app_lt (n:=w6.heap.size) N7.out (N8.out) (fun b hb=>T7.out b hb) (fun b hb=>by have:=U8.out b hb;omega)) (fun b hb=>T6.out b hb) (fun b hb=>(List.mem_append.1 hb).elim (fun hb=>by have:=U7.out b hb;omega) (fun hb=>by have:=U8.out b hb;omega))) (fun b hb=>T3.out b hb) (fun b hb=>(List.mem_append.1 hb).elim (fun hb=>by have:=U6.out b hb;omega) (fun hb=>(List.mem_append.1 hb).elim (fun hb=>by have:=U7.out b hb;omega) (fun hb=>by have:=U8.out b hb;omega)))) (fun b hb=>T2.out b hb) (fun b hb=>(List.mem_append.1 hb).elim (fun hb=>by have:=U3.out b hb;omega) (fun hb=>(List.mem_append.1 hb).elim (fun hb=>by have:=U6.out b hb;omega) (fun hb=>(List.mem_append.1 hb).elim (fun hb=>by have:=U7.out b hb;omega) (fun hb=>by have:=U8.out b hb;omega))))) (fun b hb=>T1.out b hb) (fun b hb=>(List.mem_append.1 hb).elim (fun hb=>by have:=U2.out b hb;omega) (fun hb=>(List.mem_append.1 hb).elim (fun hb=>by have:=U3.out b hb;omega) (fun hb=>(List.mem_append.1 hb).elim (fun hb=>by have:=U6.out b hb;omega) (fun hb=>(List.mem_append.1 hb).elim (fun hb=>by have:=U7.out b hb;omega) (fun hb=>by have:=U8.out b hb;omega)))))) (fun b hb=>T0.out b hb) (fun b hb=>(List.mem_append.1 hb).elim (fun hb=>by have:=U1.out b hb;omega) (fun hb=>(List.mem_append.1 hb).elim (fun hb=>by have:=U2.out b hb;omega) (fun hb=>(List.mem_append.1 hb).elim (fun hb=>by have:=U3.out b hb;omega) (fun hb=>(List.mem_append.1 hb).elim (fun hb=>by have:=U6.out b hb;omega) (fun hb=>(List.mem_append.1 hb).elim (fun hb=>by have:=U7.out b hb;omega) (fun hb=>by have:=U8.out b hb;omega)))))),fun b hb=>(List.mem_append.1 hb).elim (fun hb=>by have:=V0.out b hb;omega) (fun hb=>(List.mem_append.1 hb).elim (fun hb=>by have:=V1.out b hb;omega) (fun hb=>(List.mem_append.1 hb).elim (fun hb=>by have:=V2.out b hb;omega) (fun hb=>(List.mem_append.1 hb).elim (fun hb=>by have:=V3.out b hb;omega) (fun hb=>(List.mem_append.1 hb).elim (fun hb=>by have:=V6.out b hb;omega) (fun hb=>(List.mem_append.1 hb).elim (fun hb=>by have:=V7.out b hb;omega) (fun hb=>by have:=V8.out b hb;omega)))))),bl⟩
end Go.Proofs.YtehcjlkgfgpjnaaGreatDoor
