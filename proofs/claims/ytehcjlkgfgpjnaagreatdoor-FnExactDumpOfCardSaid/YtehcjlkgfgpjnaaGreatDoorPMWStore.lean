/- The mark of a whole Store, and the mark held. -/
import Derived.Test.YtehcjlkgfgpjnaaGreatDoorPMStore
import Derived.Test.YtehcjlkgfgpjnaaGreatDoorPOw
namespace Go.Proofs.YtehcjlkgfgpjnaaGreatDoor
set_option linter.unusedVariables false
set_option linter.unusedSimpArgs false
set_option maxRecDepth 100000
open Go.RowKit
def TStore.rcnt:TStore→Nat
 | .mk x0 x1 x2 x3 x4 x5 x6 x7 x8 x9 x10 x11 x12=>Dat.cntR (x0.map (fun x=>[Dat.str x]))+Dat.cntR (x1.map TRecordType.D)+Dat.cntR (x2.map TObject.D)+Dat.cntR (x3.map TValue.D)+Dat.cntR (x6.map (fun x=>[Dat.str x]))+Dat.cntR (x7.map (fun x=>[Dat.str x]))+Dat.cntR (x8.map TActive.D)
def TStore.OwnM (w:World) (L:List Nat) (k:Int) (vs:List Value):TStore→Prop
 | .mk x0 x1 x2 x3 x4 x5 x6 x7 x8 x9 x10 x11 x12=>∃A0 c0 L0 A1 c1 L1 A2 c2 L2 A3 c3 L3 A6 c6 L6 A7 c7 L7 A8 c8 L8,L=L0++(L1++(L2++(L3++(L6++(L7++L8)))))∧vs=[.slice A0 x0.length c0,.slice A1 x1.length c1,.slice A2 x2.length c2,.slice A3 x3.length c3,.string x4,.int .i64 x5,.slice A6 x6.length c6,.slice A7 x7.length c7,.slice A8 x8.length c8,.bool x9,.int .i64 x10,.int .i64 x11,.int .i64 x12]∧OwnRow w L0 1 A0 c0 (Dat.markR (k) (x0.map (fun x=>[Dat.str x])))∧OwnRow w L1 3 A1 c1 (Dat.markR (k+(Dat.cntR (x0.map (fun x=>[Dat.str x])):Nat)) (x1.map TRecordType.D))∧OwnRow w L2 5 A2 c2 (Dat.markR (k+(Dat.cntR (x0.map (fun x=>[Dat.str x])):Nat)+(Dat.cntR (x1.map TRecordType.D):Nat)) (x2.map TObject.D))∧OwnRow w L3 6 A3 c3 (Dat.markR (k+(Dat.cntR (x0.map (fun x=>[Dat.str x])):Nat)+(Dat.cntR (x1.map TRecordType.D):Nat)+(Dat.cntR (x2.map TObject.D):Nat)) (x3.map TValue.D))∧OwnRow w L6 1 A6 c6 (Dat.markR (k+(Dat.cntR (x0.map (fun x=>[Dat.str x])):Nat)+(Dat.cntR (x1.map TRecordType.D):Nat)+(Dat.cntR (x2.map TObject.D):Nat)+(Dat.cntR (x3.map TValue.D):Nat)) (x6.map (fun x=>[Dat.str x])))∧OwnRow w L7 1 A7 c7 (Dat.markR (k+(Dat.cntR (x0.map (fun x=>[Dat.str x])):Nat)+(Dat.cntR (x1.map TRecordType.D):Nat)+(Dat.cntR (x2.map TObject.D):Nat)+(Dat.cntR (x3.map TValue.D):Nat)+(Dat.cntR (x6.map (fun x=>[Dat.str x])):Nat)) (x7.map (fun x=>[Dat.str x])))∧OwnRow w L8 2 A8 c8 (Dat.markR (k+(Dat.cntR (x0.map (fun x=>[Dat.str x])):Nat)+(Dat.cntR (x1.map TRecordType.D):Nat)+(Dat.cntR (x2.map TObject.D):Nat)+(Dat.cntR (x3.map TValue.D):Nat)+(Dat.cntR (x6.map (fun x=>[Dat.str x])):Nat)+(Dat.cntR (x7.map (fun x=>[Dat.str x])):Nat)) (x8.map TActive.D))
theorem TStore.rcnt_le:∀t:TStore,t.rcnt≤16*Dat.wtL t.D:=by
 rintro⟨x0,x1,x2,x3,x4,x5,x6,x7,x8,x9,x10,x11,x12⟩
 have r0:=cntR_le_of (fun x=>[Dat.str x]) x0 (fun i hi=>by simp[Dat.cntC,Dat.cnt];omega)
 have r1:=cntR_le_of TRecordType.D x1 (fun i hi=>TRecordType.mcnt_le x1[i])
 have r2:=cntR_le_of TObject.D x2 (fun i hi=>TObject.mcnt_le x2[i])
 have r3:=cntR_le_of TValue.D x3 (fun i hi=>TValue.mcnt_le x3[i])
 have r6:=cntR_le_of (fun x=>[Dat.str x]) x6 (fun i hi=>by simp[Dat.cntC,Dat.cnt];omega)
 have r7:=cntR_le_of (fun x=>[Dat.str x]) x7 (fun i hi=>by simp[Dat.cntC,Dat.cnt];omega)
 have r8:=cntR_le_of TActive.D x8 (fun i hi=>TActive.mcnt_le x8[i])
 rw[TStore.D_mk]
 simp only[TStore.rcnt,Dat.wtL,Dat.wt,List.length_map]
 omega
theorem TStore.OwnM.offS {S:Nat→Prop} {w w':World} {L:List Nat} {k:Int} {vs:List Value} {t:TStore} (ho:OffS S w w') (hS:∀x,x∈L→S x) (h:TStore.OwnM w L k vs t):TStore.OwnM w' L k vs t:=by
 obtain⟨x0,x1,x2,x3,x4,x5,x6,x7,x8,x9,x10,x11,x12⟩:=t
 obtain⟨A0,c0,L0,A1,c1,L1,A2,c2,L2,A3,c3,L3,A6,c6,L6,A7,c7,L7,A8,c8,L8,rfl,hv,g0,g1,g2,g3,g6,g7,g8⟩:=h
 exact⟨_,_,_,_,_,_,_,_,_,_,_,_,_,_,_,_,_,_,_,_,_,rfl,hv,OwnRow.offS ho (fun x hx=>hS x (by simp[hx])) g0,OwnRow.offS ho (fun x hx=>hS x (by simp[hx])) g1,OwnRow.offS ho (fun x hx=>hS x (by simp[hx])) g2,OwnRow.offS ho (fun x hx=>hS x (by simp[hx])) g3,OwnRow.offS ho (fun x hx=>hS x (by simp[hx])) g6,OwnRow.offS ho (fun x hx=>hS x (by simp[hx])) g7,OwnRow.offS ho (fun x hx=>hS x (by simp[hx])) g8⟩
theorem TStore.OwnM.lt {w:World} {L:List Nat} {k:Int} {vs:List Value} {t:TStore} (h:TStore.OwnM w L k vs t):∀x,x∈L→x<w.heap.size:=by
 obtain⟨x0,x1,x2,x3,x4,x5,x6,x7,x8,x9,x10,x11,x12⟩:=t
 obtain⟨A0,c0,L0,A1,c1,L1,A2,c2,L2,A3,c3,L3,A6,c6,L6,A7,c7,L7,A8,c8,L8,rfl,hv,g0,g1,g2,g3,g6,g7,g8⟩:=h
 intro x hx
 simp only[List.mem_append]at hx
 rcases hx with hx | hx
 ·
  exact g0.lt x hx
 rcases hx with hx | hx
 ·
  exact g1.lt x hx
 rcases hx with hx | hx
 ·
  exact g2.lt x hx
 rcases hx with hx | hx
 ·
  exact g3.lt x hx
 rcases hx with hx | hx
 ·
  exact g6.lt x hx
 rcases hx with hx | hx
 ·
  exact g7.lt x hx
 exact g8.lt x hx
theorem TStore.OwnM.bel {w w':World} {L:List Nat} {k:Int} {vs:List Value} {t:TStore} (hb:Bel w w') (h:TStore.OwnM w L k vs t):TStore.OwnM w' L k vs t:=by
 obtain⟨x0,x1,x2,x3,x4,x5,x6,x7,x8,x9,x10,x11,x12⟩:=t
 obtain⟨A0,c0,L0,A1,c1,L1,A2,c2,L2,A3,c3,L3,A6,c6,L6,A7,c7,L7,A8,c8,L8,rfl,hv,g0,g1,g2,g3,g6,g7,g8⟩:=h
 exact⟨_,_,_,_,_,_,_,_,_,_,_,_,_,_,_,_,_,_,_,_,_,rfl,hv,OwnRow.bel hb g0,OwnRow.bel hb g1,OwnRow.bel hb g2,OwnRow.bel hb g3,OwnRow.bel hb g6,OwnRow.bel hb g7,OwnRow.bel hb g8⟩
set_option maxHeartbeats 4000000 in
theorem markStoreW_any (t:TStore) (L:List Nat) (w:World) (vs:List Value) (k:Int) (hv:Dat.OwnVals w L t.D vs) (hnd:L.Nodup) (h0:0≤k) (hb:k+(t.rcnt:Nat)≤4611686018427387904) :
  Calls Tryz.prog 11 #[.agg vs.toArray,.int .i64 k] w fun e w'=>e=.returned (.int .i64 (k+(t.rcnt:Nat)))∧TStore.OwnM w' L k vs t∧OffS (fun x=>x∉L) w w':=by
 obtain⟨x0,x1,x2,x3,x4,x5,x6,x7,x8,x9,x10,x11,x12⟩:=t
 simp only[TStore.rcnt]at hb ⊢
 obtain⟨A0,c0,L_0,A1,c1,L_1,A2,c2,L_2,A3,c3,L_3,A6,c6,L_6,A7,c7,L_7,A8,c8,L_8,hLL,rfl,g0,g1,g2,g3,-,-,g6,g7,g8,-,-,-,-⟩:=TStore.vals_own hv
 clear hv
 have hLL2:=hLL.symm
 clear hLL
 subst hLL2
 obtain⟨q0,hq0⟩:∃q,Dat.cntR (x0.map (fun x=>[Dat.str x]))=q:=⟨_,rfl⟩
 obtain⟨q1,hq1⟩:∃q,Dat.cntR (x1.map TRecordType.D)=q:=⟨_,rfl⟩
 obtain⟨q2,hq2⟩:∃q,Dat.cntR (x2.map TObject.D)=q:=⟨_,rfl⟩
 obtain⟨q3,hq3⟩:∃q,Dat.cntR (x3.map TValue.D)=q:=⟨_,rfl⟩
 obtain⟨q6,hq6⟩:∃q,Dat.cntR (x6.map (fun x=>[Dat.str x]))=q:=⟨_,rfl⟩
 obtain⟨q7,hq7⟩:∃q,Dat.cntR (x7.map (fun x=>[Dat.str x]))=q:=⟨_,rfl⟩
 obtain⟨q8,hq8⟩:∃q,Dat.cntR (x8.map TActive.D)=q:=⟨_,rfl⟩
 simp only[hq0,hq1,hq2,hq3,hq6,hq7,hq8]at hb ⊢
 have HNL0:=hide (List.nodup_append.1 hnd).1
 have hdd0:=(List.nodup_append.1 hnd).2.2
 have hnn0:=(List.nodup_append.1 hnd).2.1
 clear hnd
 have HNL1:=hide (List.nodup_append.1 hnn0).1
 have hdd1:=(List.nodup_append.1 hnn0).2.2
 have hnn1:=(List.nodup_append.1 hnn0).2.1
 clear hnn0
 have HNL2:=hide (List.nodup_append.1 hnn1).1
 have hdd2:=(List.nodup_append.1 hnn1).2.2
 have hnn2:=(List.nodup_append.1 hnn1).2.1
 clear hnn1
 have HNL3:=hide (List.nodup_append.1 hnn2).1
 have hdd3:=(List.nodup_append.1 hnn2).2.2
 have hnn3:=(List.nodup_append.1 hnn2).2.1
 clear hnn2
 have HNL6:=hide (List.nodup_append.1 hnn3).1
 have hdd6:=(List.nodup_append.1 hnn3).2.2
 have hnn6:=(List.nodup_append.1 hnn3).2.1
 clear hnn3
 have HNL7:=hide (List.nodup_append.1 hnn6).1
 have hdd7:=(List.nodup_append.1 hnn6).2.2
 have hnn7:=(List.nodup_append.1 hnn6).2.1
 clear hnn6
 have HNL8:=hide hnn7
 clear hnn7
 have HI0:=hide (show ∀x,x∈L_0→x∈(L_0++(L_1++(L_2++(L_3++(L_6++(L_7++L_8))))))from fun x h=>by simp[h])
 have hb_0:w.heap.size∉L_0:=fun h=>Nat.lt_irrefl _ (g0.lt _ h)
 have G0:=hide g0
 have HQ0:=hide hq0
 have HI1:=hide (show ∀x,x∈L_1→x∈(L_0++(L_1++(L_2++(L_3++(L_6++(L_7++L_8))))))from fun x h=>by simp[h])
 have hb_1:w.heap.size∉L_1:=fun h=>Nat.lt_irrefl _ (g1.lt _ h)
 have G1:=hide g1
 have HQ1:=hide hq1
 have HI2:=hide (show ∀x,x∈L_2→x∈(L_0++(L_1++(L_2++(L_3++(L_6++(L_7++L_8))))))from fun x h=>by simp[h])
 have hb_2:w.heap.size∉L_2:=fun h=>Nat.lt_irrefl _ (g2.lt _ h)
 have G2:=hide g2
 have HQ2:=hide hq2
 have HI3:=hide (show ∀x,x∈L_3→x∈(L_0++(L_1++(L_2++(L_3++(L_6++(L_7++L_8))))))from fun x h=>by simp[h])
 have hb_3:w.heap.size∉L_3:=fun h=>Nat.lt_irrefl _ (g3.lt _ h)
 have G3:=hide g3
 have HQ3:=hide hq3
 have HI6:=hide (show ∀x,x∈L_6→x∈(L_0++(L_1++(L_2++(L_3++(L_6++(L_7++L_8))))))from fun x h=>by simp[h])
 have hb_6:w.heap.size∉L_6:=fun h=>Nat.lt_irrefl _ (g6.lt _ h)
 have G6:=hide g6
 have HQ6:=hide hq6
 have HI7:=hide (show ∀x,x∈L_7→x∈(L_0++(L_1++(L_2++(L_3++(L_6++(L_7++L_8))))))from fun x h=>by simp[h])
 have hb_7:w.heap.size∉L_7:=fun h=>Nat.lt_irrefl _ (g7.lt _ h)
 have G7:=hide g7
 have HQ7:=hide hq7
 have HI8:=hide (show ∀x,x∈L_8→x∈(L_0++(L_1++(L_2++(L_3++(L_6++(L_7++L_8))))))from fun x h=>by simp[h])
 have hb_8:w.heap.size∉L_8:=fun h=>Nat.lt_irrefl _ (g8.lt _ h)
 have G8:=hide g8
 have HQ8:=hide hq8
 have HD0_1:=hide (show ∀x,x∈L_0→x∉L_1 from fun x h h2=>hdd0 x h x (by simp[h2]) rfl)
 have HD1_0:=hide (show ∀x,x∈L_1→x∉L_0 from fun x h h2=>HD0_1.out x h2 h)
 have HD0_2:=hide (show ∀x,x∈L_0→x∉L_2 from fun x h h2=>hdd0 x h x (by simp[h2]) rfl)
 have HD2_0:=hide (show ∀x,x∈L_2→x∉L_0 from fun x h h2=>HD0_2.out x h2 h)
 have HD0_3:=hide (show ∀x,x∈L_0→x∉L_3 from fun x h h2=>hdd0 x h x (by simp[h2]) rfl)
 have HD3_0:=hide (show ∀x,x∈L_3→x∉L_0 from fun x h h2=>HD0_3.out x h2 h)
 have HD0_6:=hide (show ∀x,x∈L_0→x∉L_6 from fun x h h2=>hdd0 x h x (by simp[h2]) rfl)
 have HD6_0:=hide (show ∀x,x∈L_6→x∉L_0 from fun x h h2=>HD0_6.out x h2 h)
 have HD0_7:=hide (show ∀x,x∈L_0→x∉L_7 from fun x h h2=>hdd0 x h x (by simp[h2]) rfl)
 have HD7_0:=hide (show ∀x,x∈L_7→x∉L_0 from fun x h h2=>HD0_7.out x h2 h)
 have HD0_8:=hide (show ∀x,x∈L_0→x∉L_8 from fun x h h2=>hdd0 x h x (by simp[h2]) rfl)
 have HD8_0:=hide (show ∀x,x∈L_8→x∉L_0 from fun x h h2=>HD0_8.out x h2 h)
 have HD1_2:=hide (show ∀x,x∈L_1→x∉L_2 from fun x h h2=>hdd1 x h x (by simp[h2]) rfl)
 have HD2_1:=hide (show ∀x,x∈L_2→x∉L_1 from fun x h h2=>HD1_2.out x h2 h)
 have HD1_3:=hide (show ∀x,x∈L_1→x∉L_3 from fun x h h2=>hdd1 x h x (by simp[h2]) rfl)
 have HD3_1:=hide (show ∀x,x∈L_3→x∉L_1 from fun x h h2=>HD1_3.out x h2 h)
 have HD1_6:=hide (show ∀x,x∈L_1→x∉L_6 from fun x h h2=>hdd1 x h x (by simp[h2]) rfl)
 have HD6_1:=hide (show ∀x,x∈L_6→x∉L_1 from fun x h h2=>HD1_6.out x h2 h)
 have HD1_7:=hide (show ∀x,x∈L_1→x∉L_7 from fun x h h2=>hdd1 x h x (by simp[h2]) rfl)
 have HD7_1:=hide (show ∀x,x∈L_7→x∉L_1 from fun x h h2=>HD1_7.out x h2 h)
 have HD1_8:=hide (show ∀x,x∈L_1→x∉L_8 from fun x h h2=>hdd1 x h x (by simp[h2]) rfl)
 have HD8_1:=hide (show ∀x,x∈L_8→x∉L_1 from fun x h h2=>HD1_8.out x h2 h)
 have HD2_3:=hide (show ∀x,x∈L_2→x∉L_3 from fun x h h2=>hdd2 x h x (by simp[h2]) rfl)
 have HD3_2:=hide (show ∀x,x∈L_3→x∉L_2 from fun x h h2=>HD2_3.out x h2 h)
 have HD2_6:=hide (show ∀x,x∈L_2→x∉L_6 from fun x h h2=>hdd2 x h x (by simp[h2]) rfl)
 have HD6_2:=hide (show ∀x,x∈L_6→x∉L_2 from fun x h h2=>HD2_6.out x h2 h)
 have HD2_7:=hide (show ∀x,x∈L_2→x∉L_7 from fun x h h2=>hdd2 x h x (by simp[h2]) rfl)
 have HD7_2:=hide (show ∀x,x∈L_7→x∉L_2 from fun x h h2=>HD2_7.out x h2 h)
 have HD2_8:=hide (show ∀x,x∈L_2→x∉L_8 from fun x h h2=>hdd2 x h x (by simp[h2]) rfl)
 have HD8_2:=hide (show ∀x,x∈L_8→x∉L_2 from fun x h h2=>HD2_8.out x h2 h)
 have HD3_6:=hide (show ∀x,x∈L_3→x∉L_6 from fun x h h2=>hdd3 x h x (by simp[h2]) rfl)
 have HD6_3:=hide (show ∀x,x∈L_6→x∉L_3 from fun x h h2=>HD3_6.out x h2 h)
 have HD3_7:=hide (show ∀x,x∈L_3→x∉L_7 from fun x h h2=>hdd3 x h x (by simp[h2]) rfl)
 have HD7_3:=hide (show ∀x,x∈L_7→x∉L_3 from fun x h h2=>HD3_7.out x h2 h)
 have HD3_8:=hide (show ∀x,x∈L_3→x∉L_8 from fun x h h2=>hdd3 x h x (by simp[h2]) rfl)
 have HD8_3:=hide (show ∀x,x∈L_8→x∉L_3 from fun x h h2=>HD3_8.out x h2 h)
 have HD6_7:=hide (show ∀x,x∈L_6→x∉L_7 from fun x h h2=>hdd6 x h x (by simp[h2]) rfl)
 have HD7_6:=hide (show ∀x,x∈L_7→x∉L_6 from fun x h h2=>HD6_7.out x h2 h)
 have HD6_8:=hide (show ∀x,x∈L_6→x∉L_8 from fun x h h2=>hdd6 x h x (by simp[h2]) rfl)
 have HD8_6:=hide (show ∀x,x∈L_8→x∉L_6 from fun x h h2=>HD6_8.out x h2 h)
 have HD7_8:=hide (show ∀x,x∈L_7→x∉L_8 from fun x h h2=>hdd7 x h x (by simp[h2]) rfl)
 have HD8_7:=hide (show ∀x,x∈L_8→x∉L_7 from fun x h h2=>HD7_8.out x h2 h)
 clear hdd0 hdd1 hdd2 hdd3 hdd6 hdd7 g0 g1 g2 g3 g6 g7 g8 hq0 hq1 hq2 hq3 hq6 hq7 hq8
 go_enter Tryz.func11,Tryz.ntmps11
 go_wp2_with (fail)
 refine (markStringS_any x0 L_0 _ A0 c0 _ (OwnRow.offS (S:=fun x=>x∈L_0) (w:=w) osl (fun x hx=>hx) G0.out) HNL0.out (by omega) (by rw[HQ0.out];omega)).mono ?_
 rintro e w1 ⟨rfl,hM1,ho1⟩
 rw[HQ0.out]
 have HM1:=hide hM1
 have hz1:=ho1.size
 (try simp only[World.size_alloc,World.size_setCell,World.size_drew,World.heap_drewN]at hz1)
 have hss1:=ho1.same w.heap.size hb_0 (by first | (simp;done) | (simp;omega) | omega)
 have hk1:=hss1.1
 have hf_1:=hss1.2
 have hl1:w.heap.size<w1.heap.size:=by omega
 have hoL1:=OffS.narrow (S':=fun x=>x∉(L_0++(L_1++(L_2++(L_3++(L_6++(L_7++L_8))))))) ho1 (fun x hx h=>hx (HI0.out x h))
 have ho1_1:=OffS.narrow (S':=fun x=>x∈L_1) ho1 (fun x hx=>HD1_0.out x hx)
 have ho1_2:=OffS.narrow (S':=fun x=>x∈L_2) ho1 (fun x hx=>HD2_0.out x hx)
 have ho1_3:=OffS.narrow (S':=fun x=>x∈L_3) ho1 (fun x hx=>HD3_0.out x hx)
 have ho1_6:=OffS.narrow (S':=fun x=>x∈L_6) ho1 (fun x hx=>HD6_0.out x hx)
 have ho1_7:=OffS.narrow (S':=fun x=>x∈L_7) ho1 (fun x hx=>HD7_0.out x hx)
 have ho1_8:=OffS.narrow (S':=fun x=>x∈L_8) ho1 (fun x hx=>HD8_0.out x hx)
 clear hss1 ho1 hM1
 go_wp2_with (fail)
 refine (markRecordTypeS_any x1 L_1 _ A1 c1 _ (OwnRow.offS (S:=fun x=>x∈L_1) (w:=w) osl (fun x hx=>hx) G1.out) HNL1.out (by omega) (by rw[HQ1.out];omega)).mono ?_
 rintro e w2 ⟨rfl,hM2,ho2⟩
 rw[HQ1.out]
 have HM2:=hide hM2
 have hz2:=ho2.size
 (try simp only[World.size_alloc,World.size_setCell,World.size_drew,World.heap_drewN]at hz2)
 have hss2:=ho2.same w.heap.size hb_1 (by first | (simp;done) | (simp;omega) | omega)
 have hk2:=hss2.1
 have hf_2:=hss2.2
 have hl2:w.heap.size<w2.heap.size:=by omega
 have hoL2:=OffS.narrow (S':=fun x=>x∉(L_0++(L_1++(L_2++(L_3++(L_6++(L_7++L_8))))))) ho2 (fun x hx h=>hx (HI1.out x h))
 have ho2_0:=OffS.narrow (S':=fun x=>x∈L_0) ho2 (fun x hx=>HD0_1.out x hx)
 have ho2_2:=OffS.narrow (S':=fun x=>x∈L_2) ho2 (fun x hx=>HD2_1.out x hx)
 have ho2_3:=OffS.narrow (S':=fun x=>x∈L_3) ho2 (fun x hx=>HD3_1.out x hx)
 have ho2_6:=OffS.narrow (S':=fun x=>x∈L_6) ho2 (fun x hx=>HD6_1.out x hx)
 have ho2_7:=OffS.narrow (S':=fun x=>x∈L_7) ho2 (fun x hx=>HD7_1.out x hx)
 have ho2_8:=OffS.narrow (S':=fun x=>x∈L_8) ho2 (fun x hx=>HD8_1.out x hx)
 clear hss2 ho2 hM2
 go_wp2_with (fail)
 refine (markObjectS_any x2 L_2 _ A2 c2 _ (OwnRow.offS (S:=fun x=>x∈L_2) (w:=w) osl (fun x hx=>hx) G2.out) HNL2.out (by omega) (by rw[HQ2.out];omega)).mono ?_
 rintro e w3 ⟨rfl,hM3,ho3⟩
 rw[HQ2.out]
 have HM3:=hide hM3
 have hz3:=ho3.size
 (try simp only[World.size_alloc,World.size_setCell,World.size_drew,World.heap_drewN]at hz3)
 have hss3:=ho3.same w.heap.size hb_2 (by first | (simp;done) | (simp;omega) | omega)
 have hk3:=hss3.1
 have hf_3:=hss3.2
 have hl3:w.heap.size<w3.heap.size:=by omega
 have hoL3:=OffS.narrow (S':=fun x=>x∉(L_0++(L_1++(L_2++(L_3++(L_6++(L_7++L_8))))))) ho3 (fun x hx h=>hx (HI2.out x h))
 have ho3_0:=OffS.narrow (S':=fun x=>x∈L_0) ho3 (fun x hx=>HD0_2.out x hx)
 have ho3_1:=OffS.narrow (S':=fun x=>x∈L_1) ho3 (fun x hx=>HD1_2.out x hx)
 have ho3_3:=OffS.narrow (S':=fun x=>x∈L_3) ho3 (fun x hx=>HD3_2.out x hx)
 have ho3_6:=OffS.narrow (S':=fun x=>x∈L_6) ho3 (fun x hx=>HD6_2.out x hx)
 have ho3_7:=OffS.narrow (S':=fun x=>x∈L_7) ho3 (fun x hx=>HD7_2.out x hx)
 have ho3_8:=OffS.narrow (S':=fun x=>x∈L_8) ho3 (fun x hx=>HD8_2.out x hx)
 clear hss3 ho3 hM3
 go_wp2_with (fail)
 refine (markValueS_any x3 L_3 _ A3 c3 _ (OwnRow.offS (S:=fun x=>x∈L_3) (w:=w) osl (fun x hx=>hx) G3.out) HNL3.out (by omega) (by rw[HQ3.out];omega)).mono ?_
 rintro e w4 ⟨rfl,hM4,ho4⟩
 rw[HQ3.out]
 have HM4:=hide hM4
 have hz4:=ho4.size
 (try simp only[World.size_alloc,World.size_setCell,World.size_drew,World.heap_drewN]at hz4)
 have hss4:=ho4.same w.heap.size hb_3 (by first | (simp;done) | (simp;omega) | omega)
 have hk4:=hss4.1
 have hf_4:=hss4.2
 have hl4:w.heap.size<w4.heap.size:=by omega
 have hoL4:=OffS.narrow (S':=fun x=>x∉(L_0++(L_1++(L_2++(L_3++(L_6++(L_7++L_8))))))) ho4 (fun x hx h=>hx (HI3.out x h))
 have ho4_0:=OffS.narrow (S':=fun x=>x∈L_0) ho4 (fun x hx=>HD0_3.out x hx)
 have ho4_1:=OffS.narrow (S':=fun x=>x∈L_1) ho4 (fun x hx=>HD1_3.out x hx)
 have ho4_2:=OffS.narrow (S':=fun x=>x∈L_2) ho4 (fun x hx=>HD2_3.out x hx)
 have ho4_6:=OffS.narrow (S':=fun x=>x∈L_6) ho4 (fun x hx=>HD6_3.out x hx)
 have ho4_7:=OffS.narrow (S':=fun x=>x∈L_7) ho4 (fun x hx=>HD7_3.out x hx)
 have ho4_8:=OffS.narrow (S':=fun x=>x∈L_8) ho4 (fun x hx=>HD8_3.out x hx)
 clear hss4 ho4 hM4
 go_wp2_with (fail)
 refine (markStringS_any x6 L_6 _ A6 c6 _ (OwnRow.offS (S:=fun x=>x∈L_6) (w:=w) osl (fun x hx=>hx) G6.out) HNL6.out (by omega) (by rw[HQ6.out];omega)).mono ?_
 rintro e w5 ⟨rfl,hM5,ho5⟩
 rw[HQ6.out]
 have HM5:=hide hM5
 have hz5:=ho5.size
 (try simp only[World.size_alloc,World.size_setCell,World.size_drew,World.heap_drewN]at hz5)
 have hss5:=ho5.same w.heap.size hb_6 (by first | (simp;done) | (simp;omega) | omega)
 have hk5:=hss5.1
 have hf_5:=hss5.2
 have hl5:w.heap.size<w5.heap.size:=by omega
 have hoL5:=OffS.narrow (S':=fun x=>x∉(L_0++(L_1++(L_2++(L_3++(L_6++(L_7++L_8))))))) ho5 (fun x hx h=>hx (HI6.out x h))
 have ho5_0:=OffS.narrow (S':=fun x=>x∈L_0) ho5 (fun x hx=>HD0_6.out x hx)
 have ho5_1:=OffS.narrow (S':=fun x=>x∈L_1) ho5 (fun x hx=>HD1_6.out x hx)
 have ho5_2:=OffS.narrow (S':=fun x=>x∈L_2) ho5 (fun x hx=>HD2_6.out x hx)
 have ho5_3:=OffS.narrow (S':=fun x=>x∈L_3) ho5 (fun x hx=>HD3_6.out x hx)
 have ho5_7:=OffS.narrow (S':=fun x=>x∈L_7) ho5 (fun x hx=>HD7_6.out x hx)
 have ho5_8:=OffS.narrow (S':=fun x=>x∈L_8) ho5 (fun x hx=>HD8_6.out x hx)
 clear hss5 ho5 hM5
 go_wp2_with (fail)
 refine (markStringS_any x7 L_7 _ A7 c7 _ (OwnRow.offS (S:=fun x=>x∈L_7) (w:=w) osl (fun x hx=>hx) G7.out) HNL7.out (by omega) (by rw[HQ7.out];omega)).mono ?_
 rintro e w6 ⟨rfl,hM6,ho6⟩
 rw[HQ7.out]
 have HM6:=hide hM6
 have hz6:=ho6.size
 (try simp only[World.size_alloc,World.size_setCell,World.size_drew,World.heap_drewN]at hz6)
 have hss6:=ho6.same w.heap.size hb_7 (by first | (simp;done) | (simp;omega) | omega)
 have hk6:=hss6.1
 have hf_6:=hss6.2
 have hl6:w.heap.size<w6.heap.size:=by omega
 have hoL6:=OffS.narrow (S':=fun x=>x∉(L_0++(L_1++(L_2++(L_3++(L_6++(L_7++L_8))))))) ho6 (fun x hx h=>hx (HI7.out x h))
 have ho6_0:=OffS.narrow (S':=fun x=>x∈L_0) ho6 (fun x hx=>HD0_7.out x hx)
 have ho6_1:=OffS.narrow (S':=fun x=>x∈L_1) ho6 (fun x hx=>HD1_7.out x hx)
 have ho6_2:=OffS.narrow (S':=fun x=>x∈L_2) ho6 (fun x hx=>HD2_7.out x hx)
 have ho6_3:=OffS.narrow (S':=fun x=>x∈L_3) ho6 (fun x hx=>HD3_7.out x hx)
 have ho6_6:=OffS.narrow (S':=fun x=>x∈L_6) ho6 (fun x hx=>HD6_7.out x hx)
 have ho6_8:=OffS.narrow (S':=fun x=>x∈L_8) ho6 (fun x hx=>HD8_7.out x hx)
 clear hss6 ho6 hM6
 go_wp2_with (fail)
 refine (markActiveS_any x8 L_8 _ A8 c8 _ (OwnRow.offS (S:=fun x=>x∈L_8) (w:=w) osl (fun x hx=>hx) G8.out) HNL8.out (by omega) (by rw[HQ8.out];omega)).mono ?_
 rintro e w7 ⟨rfl,hM7,ho7⟩
 rw[HQ8.out]
 have HM7:=hide hM7
 have hz7:=ho7.size
 (try simp only[World.size_alloc,World.size_setCell,World.size_drew,World.heap_drewN]at hz7)
 have hss7:=ho7.same w.heap.size hb_8 (by first | (simp;done) | (simp;omega) | omega)
 have hk7:=hss7.1
 have hf_7:=hss7.2
 have hl7:w.heap.size<w7.heap.size:=by omega
 have hoL7:=OffS.narrow (S':=fun x=>x∉(L_0++(L_1++(L_2++(L_3++(L_6++(L_7++L_8))))))) ho7 (fun x hx h=>hx (HI8.out x h))
 have ho7_0:=OffS.narrow (S':=fun x=>x∈L_0) ho7 (fun x hx=>HD0_8.out x hx)
 have ho7_1:=OffS.narrow (S':=fun x=>x∈L_1) ho7 (fun x hx=>HD1_8.out x hx)
 have ho7_2:=OffS.narrow (S':=fun x=>x∈L_2) ho7 (fun x hx=>HD2_8.out x hx)
 have ho7_3:=OffS.narrow (S':=fun x=>x∈L_3) ho7 (fun x hx=>HD3_8.out x hx)
 have ho7_6:=OffS.narrow (S':=fun x=>x∈L_6) ho7 (fun x hx=>HD6_8.out x hx)
 have ho7_7:=OffS.narrow (S':=fun x=>x∈L_7) ho7 (fun x hx=>HD7_8.out x hx)
 clear hss7 ho7 hM7
 go_wp2_with (fail)
 go_returns
 refine⟨?_,⟨_,_,_,_,_,_,_,_,_,_,_,_,_,_,_,_,_,_,_,_,_,rfl,rfl,?_,?_,?_,?_,?_,?_,?_⟩,osl⟩
 ·
  (try simp only[Int.natCast_add,Int.add_assoc]);first | done | rfl | (congr 3;omega)
 ·
  exact OwnRow.offS (S:=fun x=>x∈L_0) (w:=w1) osl (fun x hx=>hx) HM1.out
 ·
  rw[HQ0.out];exact OwnRow.offS (S:=fun x=>x∈L_1) (w:=w2) osl (fun x hx=>hx) HM2.out
 ·
  rw[HQ0.out,HQ1.out];exact OwnRow.offS (S:=fun x=>x∈L_2) (w:=w3) osl (fun x hx=>hx) HM3.out
 ·
  rw[HQ0.out,HQ1.out,HQ2.out];exact OwnRow.offS (S:=fun x=>x∈L_3) (w:=w4) osl (fun x hx=>hx) HM4.out
 ·
  rw[HQ0.out,HQ1.out,HQ2.out,HQ3.out];exact OwnRow.offS (S:=fun x=>x∈L_6) (w:=w5) osl (fun x hx=>hx) HM5.out
 ·
  rw[HQ0.out,HQ1.out,HQ2.out,HQ3.out,HQ6.out];exact OwnRow.offS (S:=fun x=>x∈L_7) (w:=w6) osl (fun x hx=>hx) HM6.out
 ·
  rw[HQ0.out,HQ1.out,HQ2.out,HQ3.out,HQ6.out,HQ7.out];exact OwnRow.offS (S:=fun x=>x∈L_8) (w:=w7) osl (fun x hx=>hx) HM7.out
end Go.Proofs.YtehcjlkgfgpjnaaGreatDoor
