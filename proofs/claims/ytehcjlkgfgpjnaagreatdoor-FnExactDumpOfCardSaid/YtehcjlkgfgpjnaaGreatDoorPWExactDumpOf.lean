/- The walk of FnExactDumpOf. -/
import Derived.Test.YtehcjlkgfgpjnaaGreatDoorPUd
import Derived.Test.YtehcjlkgfgpjnaaGreatDoorPShelf
import Derived.Test.YtehcjlkgfgpjnaaGreatDoorPMWStore
import Derived.Test.YtehcjlkgfgpjnaaGreatDoorPHStore
import Derived.Deep.RegionHeld3
namespace Go.Proofs.YtehcjlkgfgpjnaaGreatDoor
set_option linter.unusedVariables false
set_option linter.unusedSimpArgs false
set_option maxRecDepth 100000
open Go.RowKit
theorem dump_len (s:TStore):(dumpT s).length≤s.actives.length:=by
 unfold dumpT
 split
 ·
  rw[List.length_map];exact Nat.le_refl _
 ·
  exact Nat.zero_le _
theorem cntR_strsU:∀ks:List ByteArray,Dat.cntR (ks.map (fun x=>[Dat.str x]))=ks.length
 | []=>rfl
 | x :: r=>by
  have:=cntR_strsU r
  simp only[List.map_cons,Dat.cntR,Dat.cntC,Dat.cnt,this,List.length_cons]
  omega
set_option maxRecDepth 8000 in
set_option maxHeartbeats 8000000 in
theorem FnExactDumpOf_walk (s0:TStore) (vs0:List Value) (w:World) (hv0:Dat.HoldVals w (fun _=>True) s0.D vs0) (htab:Tabs w) :
  Calls Tryz.prog 3 #[.agg vs0.toArray] w fun e w'=>e=.returned (.bool true)∧Bel w w':=by
 have HT:=hide htab
 have HV:=hide hv0
 clear htab
 obtain⟨x0,x1,x2,x3,x4,x5,x6,x7,x8,x9,x10,x11,x12⟩:=s0
 obtain⟨A0,c0,A1,c1,A2,c2,A3,c3,A6,c6,A7,c7,A8,c8,rfl,-⟩:=TStore.vals hv0
 clear hv0
 obtain⟨ks,hks⟩:∃ks,dumpT (TStore.mk x0 x1 x2 x3 x4 x5 x6 x7 x8 x9 x10 x11 x12)=ks:=⟨_,rfl⟩
 have hkl:=dump_len (TStore.mk x0 x1 x2 x3 x4 x5 x6 x7 x8 x9 x10 x11 x12)
 rw[hks]at hkl
 have HKS:=hide hks
 clear hks
 simp only[TStore.actives]at hkl
 obtain⟨m0,hm0⟩:∃m:Nat,m=Dat.wtL (TStore.mk x0 x1 x2 x3 x4 x5 x6 x7 x8 x9 x10 x11 x12).D:=⟨_,rfl⟩
 have hw8:x8.length≤Dat.wtL (TStore.mk x0 x1 x2 x3 x4 x5 x6 x7 x8 x9 x10 x11 x12).D:=by rw[TStore.D_mk];simp only[Dat.wtL,Dat.wt,List.length_map];omega
 rcases Int.lt_or_le (1048576:Int) (m0:Int)with hq0 | hq0
 ·
  have HZ0:=hide (show szL (Dat.wtL (TStore.mk x0 x1 x2 x3 x4 x5 x6 x7 x8 x9 x10 x11 x12).D) (1048576:Int) = -1 from szL_no (by omega))
  clear hq0 hm0 hw8 hkl
  go_enter Tryz.func3,Tryz.ntmps3
  go_wp2_with (go_at_call 5;refine (szStore_any _ _ _ _ _ (Dat.HoldVals.bel bl HV.out) (by omega) (by omega)).mono ?_;rintro e w1 ⟨rfl,hb1⟩;rw[HZ0.out];(have hz1:=hb1.sz;obtain⟨hk1_0,hf1_0,hl1_0,hn1_0⟩:=hb1.lay (w.heap.size)))
  all_goals
   go_returns
   exact⟨rfl,bl⟩
 have HZ0:=hide (show szL (Dat.wtL (TStore.mk x0 x1 x2 x3 x4 x5 x6 x7 x8 x9 x10 x11 x12).D) (1048576:Int)=(1048576:Int) - (m0:Int)from by rw[szL_yes (by omega),hm0])
 have hws:Dat.wtL (TStore.mk x0 x1 x2 x3 x4 x5 x6 x7 x8 x9 x10 x11 x12).D≤1048576:=by omega
 have HS0:=hide hws
 have HCN:=hide (show (1:Int)+(TStore.rcnt (TStore.mk x0 x1 x2 x3 x4 x5 x6 x7 x8 x9 x10 x11 x12):Nat)≤4611686018427387904 by have:=TStore.rcnt_le (TStore.mk x0 x1 x2 x3 x4 x5 x6 x7 x8 x9 x10 x11 x12);omega)
 obtain⟨q0,hq0r⟩:∃q,TStore.rcnt (TStore.mk x0 x1 x2 x3 x4 x5 x6 x7 x8 x9 x10 x11 x12)=q:=⟨_,rfl⟩
 have HQ0:=hide hq0r
 have hkz:ks.length≤1048576:=by omega
 have hcnt:=cntR_strsU ks
 have HCNT:=hide hcnt
 have HQK:=hide (show (1:Int)+(Dat.cntR (ks.map (fun x=>[Dat.str x])):Nat)≤4611686018427387904 by rw[hcnt];omega)
 have dz0:decide ((1048576:Int) - (m0:Int)<0)=false:=by simp;omega
 clear hq0r hcnt hm0 hw8 hkl hws
 generalize hmm:(1048576:Int) - (m0:Int)=mm at *
 clear hmm hq0
 go_enter Tryz.func3,Tryz.ntmps3
 go_upto_region 5 with (go_at_call 5;refine (szStore_any _ _ _ _ _ (Dat.HoldVals.bel bl HV.out) (by omega) (by omega)).mono ?_;rintro e w1 ⟨rfl,hb1⟩;rw[HZ0.out];(have hz1:=hb1.sz;obtain⟨hk1_0,hf1_0,hl1_0,hn1_0⟩:=hb1.lay (w.heap.size)))
 refine wp_named2 fun wr hwr=>?_
 have hbr:Bel w wr:=by rw[←hwr];exact bl
 have PA:=hide (show SB wr w.heap.size (.slice A0 x0.length c0) (.slice A1 x1.length c1) (.slice A2 x2.length c2) (.slice A3 x3.length c3) (.string x4) (.int .i64 x5) (.slice A6 x6.length c6) (.slice A7 x7.length c7) (.slice A8 x8.length c8) (.bool x9) (.int .i64 x10) (.int .i64 x11) (.int .i64 x12)from by rw[←hwr];exact⟨by omega,fun o=>by simp[hf1_0,go_sem],by simp[hk1_0,go_sem],by simp[hk1_0,go_sem],by simp[hk1_0,go_sem],by simp[hk1_0,go_sem],by simp[hk1_0,go_sem],by simp[hk1_0,go_sem],by simp[hk1_0,go_sem],by simp[hk1_0,go_sem],by simp[hk1_0,go_sem],by simp[hk1_0,go_sem],by simp[hk1_0,go_sem],by simp[hk1_0,go_sem],by simp[hk1_0,go_sem]⟩)
 clear hwr hb1 hz1 hk1_0 hf1_0 hl1_0 hn1_0
 have pb:=PA.out
 obtain⟨hlA,hfA,kA_0,kA_1,kA_2,kA_3,kA_4,kA_5,kA_6,kA_7,kA_8,kA_9,kA_10,kA_11,kA_12⟩:=pb
 go_upto_region 6 with (first | (go_at_call 7;refine (toStore_any _ _ _ _ (Dat.HoldVals.bel (Bel.trans hbr bl) HV.out) HS0.out).mono ?_;rintro e w2 ⟨vs2,rfl,hv2,hb2⟩;obtain⟨i2A0,i2c0,i2A1,i2c1,i2A2,i2c2,i2A3,i2c3,i2A6,i2c6,i2A7,i2c7,i2A8,i2c8,rfl,-⟩:=TStore.vals hv2;have HP2:=hide hv2;clear hv2) | (go_at_call 6;refine (specDof_any (TStore.mk x0 x1 x2 x3 x4 x5 x6 x7 x8 x9 x10 x11 x12) _ _ _ (HT.out.1.on (Bel.trans hbr bl)) (HT.out.2.on (Bel.trans hbr bl)) (Dat.HoldVals.bel bl HP2.out)).mono ?_;rintro e w3 ⟨WA,Wc,LW,rfl,hr3,hn3,hm3,hb3⟩;rw[HKS.out]at hr3 ⊢;have HRW:=hide hr3;have HNW:=hide hn3;have HMW:=hide hm3;clear hr3 hn3 hm3))
 clear hlA hfA kA_0 kA_1 kA_2 kA_3 kA_4 kA_5 kA_6 kA_7 kA_8 kA_9 kA_10 kA_11 kA_12
 refine wp_named2 fun wB hwB=>?_
 have hbB:Bel w3 wB:=by rw[←hwB];exact bl
 clear hwB
 have hrB:=Bel.trans hb2 (Bel.trans hb3 hbB)
 have hbwB:=Bel.trans hbr hrB
 have PB:=hide (PA.out.on hrB)
 have HW:=hide (HRW.out.bel hbB)
 have hz2:=hb2.size
 have hzr:=hbr.size
 have hAl:=PA.out.1
 have hwzB:w.heap.size<wB.heap.size:=by have h1:=hrB.size;omega
 have HLW:=hide (show ∀x,x∈LW→w.heap.size<x∧x<wB.heap.size from fun x hx=>⟨by have:=HMW.out x hx;omega,HW.out.lt x hx⟩)
 clear PA HRW HMW HNW HP2 hb2 hb3 hbB hbr hz2
 have pb:=PB.out
 obtain⟨hlA,hfA,kA_0,kA_1,kA_2,kA_3,kA_4,kA_5,kA_6,kA_7,kA_8,kA_9,kA_10,kA_11,kA_12⟩:=pb
 go_upto_region 7 with (go_at_call 7;refine (toStoreL_any _ _ _ _ (Dat.HoldVals.bel (Bel.trans hbwB bl) HV.out) HS0.out).mono ?_;rintro e w4 ⟨vs4,LX,rfl,hv4,hn4,hl4,hb4⟩;obtain⟨XA0,Xc0,-,XA1,Xc1,-,XA2,Xc2,-,XA3,Xc3,-,XA6,Xc6,-,XA7,Xc7,-,XA8,Xc8,-,-,rfl,-⟩:=TStore.vals_own hv4;have HX4:=hide hv4;have HNX:=hide hn4;have HLX4:=hide hl4;clear hv4 hn4 hl4)
 clear hlA hfA kA_0 kA_1 kA_2 kA_3 kA_4 kA_5 kA_6 kA_7 kA_8 kA_9 kA_10 kA_11 kA_12
 refine wp_named2 fun wC hwC=>?_
 have hbC:Bel w4 wC:=by rw[←hwC];exact bl
 have BX:=hide (show SB wC w4.heap.size (.slice XA0 x0.length Xc0) (.slice XA1 x1.length Xc1) (.slice XA2 x2.length Xc2) (.slice XA3 x3.length Xc3) (.string x4) (.int .i64 x5) (.slice XA6 x6.length Xc6) (.slice XA7 x7.length Xc7) (.slice XA8 x8.length Xc8) (.bool x9) (.int .i64 x10) (.int .i64 x11) (.int .i64 x12)from by rw[←hwC];exact SB.new _ _)
 clear hwC
 have hs4:=hb4.size
 have HLX:=hide (show ∀x,x∈LX→wB.heap.size≤x∧x<w4.heap.size from fun x hx=>⟨HLX4.out x hx,Dat.OwnVals.lt _ _ _ HX4.out x hx⟩)
 have hbBC:=Bel.trans hb4 hbC
 have HX:=hide (HX4.out.bel hbC)
 have PC:=hide (PB.out.on hbBC)
 have HWC:=hide (HW.out.bel hbBC)
 have hbwC:=Bel.trans hbwB hbBC
 have hXb:wB.heap.size≤w4.heap.size:=hs4
 have hXc:w4.heap.size<wC.heap.size:=BX.out.1
 clear HX4 HLX4 PB HW hb4 hbC hs4 hbBC hbwB
 generalize w4.heap.size=bX at BX HLX hXb hXc ⊢
 clear w4
 have pb:=BX.out
 obtain⟨hlX,hfX,kX_0,kX_1,kX_2,kX_3,kX_4,kX_5,kX_6,kX_7,kX_8,kX_9,kX_10,kX_11,kX_12⟩:=pb
 go_upto_region 8 with (go_at_call 8;refine (implDof_any (TStore.mk x0 x1 x2 x3 x4 x5 x6 x7 x8 x9 x10 x11 x12) _ _ _ (HT.out.1.on (Bel.trans hbwC bl)) (HT.out.2.on (Bel.trans hbwC bl)) (Dat.OwnVals.vals (S:=fun _=>True) (fun _ _=>trivial) HX.out)).mono ?_;rintro e w5 ⟨GA,Gc,LG,rfl,hr5,hn5,hm5,hb5⟩;rw[HKS.out]at hr5 ⊢;have HRG:=hide hr5;have HNG:=hide hn5;have HMG:=hide hm5;clear hr5 hn5 hm5)
 clear hlX hfX kX_0 kX_1 kX_2 kX_3 kX_4 kX_5 kX_6 kX_7 kX_8 kX_9 kX_10 kX_11 kX_12
 refine wp_named2 fun wD hwD=>?_
 have hbD:Bel w5 wD:=by rw[←hwD];exact bl
 clear hwD
 have hbCD:=Bel.trans hb5 hbD
 have HXD:=hide (HX.out.bel hbCD)
 have BXD:=hide (BX.out.on hbCD)
 have PD:=hide (PC.out.on hbCD)
 have HWD:=hide (HWC.out.bel hbCD)
 have HGD:=hide (HRG.out.bel hbD)
 have hbwD:=Bel.trans hbwC hbCD
 have HLG:=hide (show ∀x,x∈LG→wC.heap.size≤x∧x<wD.heap.size from fun x hx=>⟨HMG.out x hx,HGD.out.lt x hx⟩)
 have hzCD:=hbCD.size
 clear HX BX PC HWC HRG HMG hb5 hbD hbCD hbwC
 go_upto_region 10 with (go_at_call 9;refine (eqStringS_any ks (fun _=>True) (fun _=>True) _ _ _ _ _ (Row.bel bl (OwnRow.row (S:=fun _=>True) (fun _ _=>trivial) HGD.out)) (Row.bel bl (OwnRow.row (S:=fun _=>True) (fun _ _=>trivial) HWD.out))).mono ?_;rintro e w6 ⟨rfl,hb6⟩)
 refine wp_named2 fun wE hwE=>?_
 have hbDE:Bel wD wE:=by rw[←hwE];exact bl
 clear hwE
 clear hb6
 have HXE:=hide (HXD.out.bel hbDE)
 have BXE:=hide (BXD.out.on hbDE)
 have PE:=hide (PD.out.on hbDE)
 have HWE:=hide (HWD.out.bel hbDE)
 have HGE:=hide (HGD.out.bel hbDE)
 have hbwE:=Bel.trans hbwD hbDE
 have hzE:=hbDE.size
 clear HXD BXD PD HWD HGD hbwD hbDE
 have pb:=PE.out
 obtain⟨hlA,hfA,kA_0,kA_1,kA_2,kA_3,kA_4,kA_5,kA_6,kA_7,kA_8,kA_9,kA_10,kA_11,kA_12⟩:=pb
 have pb:=BXE.out
 obtain⟨hlX,hfX,kX_0,kX_1,kX_2,kX_3,kX_4,kX_5,kX_6,kX_7,kX_8,kX_9,kX_10,kX_11,kX_12⟩:=pb
 refine wp_region_held_drew (S:=fun w'=>w'.cell? ⟨w.heap.size,0,none⟩=some (.slice A0 x0.length c0)∧w'.cell? ⟨w.heap.size,1,none⟩=some (.slice A1 x1.length c1)∧w'.cell? ⟨w.heap.size,2,none⟩=some (.slice A2 x2.length c2)∧w'.cell? ⟨w.heap.size,3,none⟩=some (.slice A3 x3.length c3)∧w'.cell? ⟨w.heap.size,4,none⟩=some (.string x4)∧w'.cell? ⟨w.heap.size,5,none⟩=some (.int .i64 x5)∧w'.cell? ⟨w.heap.size,6,none⟩=some (.slice A6 x6.length c6)∧w'.cell? ⟨w.heap.size,7,none⟩=some (.slice A7 x7.length c7)∧w'.cell? ⟨w.heap.size,8,none⟩=some (.slice A8 x8.length c8)∧w'.cell? ⟨w.heap.size,9,none⟩=some (.bool x9)∧w'.cell? ⟨w.heap.size,10,none⟩=some (.int .i64 x10)∧w'.cell? ⟨w.heap.size,11,none⟩=some (.int .i64 x11)∧w'.cell? ⟨w.heap.size,12,none⟩=some (.int .i64 x12)∧w'.cell? ⟨bX,0,none⟩=some (.slice XA0 x0.length Xc0)∧w'.cell? ⟨bX,1,none⟩=some (.slice XA1 x1.length Xc1)∧w'.cell? ⟨bX,2,none⟩=some (.slice XA2 x2.length Xc2)∧w'.cell? ⟨bX,3,none⟩=some (.slice XA3 x3.length Xc3)∧w'.cell? ⟨bX,4,none⟩=some (.string x4)∧w'.cell? ⟨bX,5,none⟩=some (.int .i64 x5)∧w'.cell? ⟨bX,6,none⟩=some (.slice XA6 x6.length Xc6)∧w'.cell? ⟨bX,7,none⟩=some (.slice XA7 x7.length Xc7)∧w'.cell? ⟨bX,8,none⟩=some (.slice XA8 x8.length Xc8)∧w'.cell? ⟨bX,9,none⟩=some (.bool x9)∧w'.cell? ⟨bX,10,none⟩=some (.int .i64 x10)∧w'.cell? ⟨bX,11,none⟩=some (.int .i64 x11)∧w'.cell? ⟨bX,12,none⟩=some (.int .i64 x12)) (by kernel_rfl) ?_ (fun hHeld=>?_)
 ·
  exact⟨kA_0,kA_1,kA_2,kA_3,kA_4,kA_5,kA_6,kA_7,kA_8,kA_9,kA_10,kA_11,kA_12,kX_0,kX_1,kX_2,kX_3,kX_4,kX_5,kX_6,kX_7,kX_8,kX_9,kX_10,kX_11,kX_12⟩
 refine tkI 0 ?_
 refine tkI 1 ?_
 refine wpAnyH_ready (rs:=[2]) (by kernel_rfl) (by simp) ?_
 refine AllReadyH.cons (o:=_) rfl (fun K hK=>?_) AllReadyH.nil
 go_simp
 clear hHeld
 go_at_call 7
 refine (toStore_any _ _ _ _ (Dat.HoldVals.bel (Bel.trans hbwE bl) HV.out) HS0.out).mono ?_
 rintro e w7 ⟨vs7,rfl,hv7,hb7⟩
 obtain⟨i7A0,i7c0,i7A1,i7c1,i7A2,i7c2,i7A3,i7c3,i7A6,i7c6,i7A7,i7c7,i7A8,i7c8,rfl,-⟩:=TStore.vals hv7
 have HP7:=hide hv7
 clear hv7
 have hbE7:Bel wE w7:=Bel.trans (Bel.drew (Bel.refl _)) hb7
 refine hK.out _ _ ?_ (fun hHeld=>?_)
 ·
  exact⟨(hbE7.box _ hlA _).trans kA_0,(hbE7.box _ hlA _).trans kA_1,(hbE7.box _ hlA _).trans kA_2,(hbE7.box _ hlA _).trans kA_3,(hbE7.box _ hlA _).trans kA_4,(hbE7.box _ hlA _).trans kA_5,(hbE7.box _ hlA _).trans kA_6,(hbE7.box _ hlA _).trans kA_7,(hbE7.box _ hlA _).trans kA_8,(hbE7.box _ hlA _).trans kA_9,(hbE7.box _ hlA _).trans kA_10,(hbE7.box _ hlA _).trans kA_11,(hbE7.box _ hlA _).trans kA_12,(hbE7.box _ hlX _).trans kX_0,(hbE7.box _ hlX _).trans kX_1,(hbE7.box _ hlX _).trans kX_2,(hbE7.box _ hlX _).trans kX_3,(hbE7.box _ hlX _).trans kX_4,(hbE7.box _ hlX _).trans kX_5,(hbE7.box _ hlX _).trans kX_6,(hbE7.box _ hlX _).trans kX_7,(hbE7.box _ hlX _).trans kX_8,(hbE7.box _ hlX _).trans kX_9,(hbE7.box _ hlX _).trans kX_10,(hbE7.box _ hlX _).trans kX_11,(hbE7.box _ hlX _).trans kX_12⟩
 clear hK K
 (try simp only[Act.put,List.setIfInBounds_toArray,List.set_cons_zero,List.set_cons_succ,List.getElem_toArray,List.getElem_cons_zero,List.getElem_cons_succ])
 refine wpAnyH_ready (rs:=[3]) (by kernel_rfl) (by simp) ?_
 refine AllReadyH.cons (o:=_) rfl (fun K hK=>?_) AllReadyH.nil
 go_simp
 clear hHeld
 go_at_call 10
 refine (eqStore_any (TStore.mk x0 x1 x2 x3 x4 x5 x6 x7 x8 x9 x10 x11 x12) (fun _=>True) _ _ _ _ (Dat.OwnVals.vals (S:=fun _=>True) (fun _ _=>trivial) (HXE.out.bel hbE7)) HP7.out).mono ?_
 rintro e w8 ⟨rfl,hb8⟩
 have hbE8:Bel wE w8:=Bel.trans hbE7 hb8
 refine hK.out _ _ ?_ (fun hHeld=>?_)
 ·
  exact⟨(hbE8.box _ hlA _).trans kA_0,(hbE8.box _ hlA _).trans kA_1,(hbE8.box _ hlA _).trans kA_2,(hbE8.box _ hlA _).trans kA_3,(hbE8.box _ hlA _).trans kA_4,(hbE8.box _ hlA _).trans kA_5,(hbE8.box _ hlA _).trans kA_6,(hbE8.box _ hlA _).trans kA_7,(hbE8.box _ hlA _).trans kA_8,(hbE8.box _ hlA _).trans kA_9,(hbE8.box _ hlA _).trans kA_10,(hbE8.box _ hlA _).trans kA_11,(hbE8.box _ hlA _).trans kA_12,(hbE8.box _ hlX _).trans kX_0,(hbE8.box _ hlX _).trans kX_1,(hbE8.box _ hlX _).trans kX_2,(hbE8.box _ hlX _).trans kX_3,(hbE8.box _ hlX _).trans kX_4,(hbE8.box _ hlX _).trans kX_5,(hbE8.box _ hlX _).trans kX_6,(hbE8.box _ hlX _).trans kX_7,(hbE8.box _ hlX _).trans kX_8,(hbE8.box _ hlX _).trans kX_9,(hbE8.box _ hlX _).trans kX_10,(hbE8.box _ hlX _).trans kX_11,(hbE8.box _ hlX _).trans kX_12⟩
 clear hK K
 (try simp only[Act.put,List.setIfInBounds_toArray,List.set_cons_zero,List.set_cons_succ,List.getElem_toArray,List.getElem_cons_zero,List.getElem_cons_succ])
 refine tkI 4 ?_
 refine wpAnyH_done (by kernel_rfl) ?_ _
 clear hHeld HP7 hb7 hb8 hbE7
 go_upto_region 13 with (fail)
 refine wp_named2 fun wF hwF=>?_
 have hbEF:Bel wE wF:=by rw[←hwF];exact bl
 clear hwF
 clear hbE8
 clear hlA hfA kA_0 kA_1 kA_2 kA_3 kA_4 kA_5 kA_6 kA_7 kA_8 kA_9 kA_10 kA_11 kA_12
 clear hlX hfX kX_0 kX_1 kX_2 kX_3 kX_4 kX_5 kX_6 kX_7 kX_8 kX_9 kX_10 kX_11 kX_12
 have HXF:=hide (HXE.out.bel hbEF)
 have BXF:=hide (BXE.out.on hbEF)
 have PF:=hide (PE.out.on hbEF)
 have HWF:=hide (HWE.out.bel hbEF)
 have HGF:=hide (HGE.out.bel hbEF)
 have hbwF:=Bel.trans hbwE hbEF
 have hzF:=hbEF.size
 clear HXE BXE PE HWE HGE hbwE hbEF
 have pb:=BXF.out
 obtain⟨hlX,hfX,kX_0,kX_1,kX_2,kX_3,kX_4,kX_5,kX_6,kX_7,kX_8,kX_9,kX_10,kX_11,kX_12⟩:=pb
 go_upto_region 14 with (go_at_call 11;refine (markStoreW_any (TStore.mk x0 x1 x2 x3 x4 x5 x6 x7 x8 x9 x10 x11 x12) LX _ _ 1 HXF.out HNX.out (by omega) HCN.out).mono ?_;rintro e w9 ⟨rfl,-,ho9⟩;rw[HQ0.out])
 clear hlX hfX kX_0 kX_1 kX_2 kX_3 kX_4 kX_5 kX_6 kX_7 kX_8 kX_9 kX_10 kX_11 kX_12
 have dk9:decide ((1:Int)+(q0:Int)<0)=false:=by simp;omega
 have N9:=hide (ho9.toBel hbwF (fun x hx h=>by have:=HLX.out x h;omega))
 have P9:=hide (PF.out.block ho9.size (ho9.block _ (fun h=>by have:=HLX.out _ h;omega) PF.out.1))
 have HW9:=hide (HWF.out.offS ho9 (fun x hx h=>by have h1:=HLW.out x hx;have h2:=HLX.out x h;omega))
 have HG9:=hide (HGF.out.offS ho9 (fun x hx h=>by have h1:=HLG.out x hx;have h2:=HLX.out x h;omega))
 have hz9:=ho9.size
 clear HXF BXF PF HWF HGF hbwF HNX ho9
 go_upto_region 17 with (go_at_call 9;refine (eqStringS_any ks (fun _=>True) (fun _=>True) _ _ _ _ _ (Row.bel bl (OwnRow.row (S:=fun _=>True) (fun _ _=>trivial) HG9.out)) (Row.bel bl (OwnRow.row (S:=fun _=>True) (fun _ _=>trivial) HW9.out))).mono ?_;rintro e w10 ⟨rfl,hb10⟩)
 refine wp_named2 fun wG hwG=>?_
 have hb9G:Bel w9 wG:=by rw[←hwG];exact bl
 clear hwG
 clear hb10
 have NG:=hide (Bel.trans N9.out hb9G)
 have PG:=hide (P9.out.on hb9G)
 have HWG:=hide (HW9.out.bel hb9G)
 have HGG:=hide (HG9.out.bel hb9G)
 have hzG:=hb9G.size
 clear N9 P9 HW9 HG9 hb9G
 go_upto_region 18 with (go_at_call 12;refine (markStringS_any ks LG _ _ _ 1 HGG.out HNG.out (by omega) HQK.out).mono ?_;rintro e w11 ⟨rfl,hM,ho11⟩;rw[HCNT.out];have HM11:=hide hM;clear hM)
 have N11:=hide (ho11.toBel NG.out (fun x hx h=>by have:=HLG.out x h;omega))
 have P11:=hide (PG.out.block ho11.size (ho11.block _ (fun h=>by have:=HLG.out _ h;omega) PG.out.1))
 have HW11:=hide (HWG.out.offS ho11 (fun x hx h=>by have h1:=HLW.out x hx;have h2:=HLG.out x h;omega))
 have hz11:=ho11.size
 clear NG PG HWG HGG HNG ho11
 obtain⟨qk,hqk⟩:∃n:Nat,n=ks.length:=⟨_,rfl⟩
 have dq0:decide ((1:Int)+(ks.length:Int)<0)=false:=by simp;omega
 have dq1:((1:Int)+(ks.length:Int) != 1+(ks.length:Int))=false:=by simp
 clear hqk qk
 go_upto_region 24 with (go_at_call 13;refine (heldStringS_any ks (fun _=>True) _ _ _ 1 (Row.bel bl (OwnRow.row (S:=fun _=>True) (fun _ _=>trivial) HM11.out)) (by omega) HQK.out).mono ?_;rintro e w12 ⟨rfl,hb12⟩;rw[HCNT.out])
 refine wp_named2 fun wJ hwJ=>?_
 have hbJ:Bel w11 wJ:=by rw[←hwJ];exact bl
 clear hwJ
 clear hb12
 have NJ:=hide (Bel.trans N11.out hbJ)
 have PJ:=hide (P11.out.on hbJ)
 have HWJ:=hide (HW11.out.bel hbJ)
 have HMJ:=hide (HM11.out.bel hbJ)
 have hbwJ:=NJ.out
 clear N11 P11 HW11 HM11 hbJ
 have pb:=PJ.out
 obtain⟨hlA,hfA,kA_0,kA_1,kA_2,kA_3,kA_4,kA_5,kA_6,kA_7,kA_8,kA_9,kA_10,kA_11,kA_12⟩:=pb
 go_upto_region 25 with (first | (go_at_call 7;refine (toStore_any _ _ _ _ (Dat.HoldVals.bel (Bel.trans hbwJ bl) HV.out) HS0.out).mono ?_;rintro e w13 ⟨vs13,rfl,hv13,hb13⟩;obtain⟨i13A0,i13c0,i13A1,i13c1,i13A2,i13c2,i13A3,i13c3,i13A6,i13c6,i13A7,i13c7,i13A8,i13c8,rfl,-⟩:=TStore.vals hv13;have HP13:=hide hv13;clear hv13) | (go_at_call 8;refine (implDof_any (TStore.mk x0 x1 x2 x3 x4 x5 x6 x7 x8 x9 x10 x11 x12) _ _ _ (HT.out.1.on (Bel.trans hbwJ bl)) (HT.out.2.on (Bel.trans hbwJ bl)) (Dat.HoldVals.bel bl HP13.out)).mono ?_;rintro e w14 ⟨HA,Hc,LH,rfl,hr14,hn14,hm14,hb14⟩;rw[HKS.out]at hr14 ⊢;have HRH:=hide hr14;have HNH:=hide hn14;have HMH:=hide hm14;clear hr14 hn14 hm14))
 clear hlA hfA kA_0 kA_1 kA_2 kA_3 kA_4 kA_5 kA_6 kA_7 kA_8 kA_9 kA_10 kA_11 kA_12
 have hbJ14:=Bel.trans hb13 hb14
 have HWK:=hide (HWJ.out.bel hbJ14)
 have HMK:=hide (HMJ.out.bel hbJ14)
 have hbwK:=Bel.trans hbwJ hbJ14
 clear HWJ HMJ PJ NJ hbwJ HP13
 go_wp2_with (first | (go_at_call 9;refine (eqStringS_any ks (fun _=>True) (fun _=>True) _ _ _ _ _ (Row.bel bl (OwnRow.row (S:=fun _=>True) (fun _ _=>trivial) HRH.out)) (Row.bel bl (OwnRow.row (S:=fun _=>True) (fun _ _=>trivial) HWK.out))).mono ?_;rintro e w15 ⟨rfl,hb15⟩) | (go_at_call 13;refine (heldStringS_any ks (fun _=>True) _ _ _ 1 (Row.bel bl (OwnRow.row (S:=fun _=>True) (fun _ _=>trivial) HMK.out)) (by omega) HQK.out).mono ?_;rintro e w16 ⟨rfl,hb16⟩;rw[HCNT.out]))
 all_goals
  go_returns
  exact⟨rfl,Bel.trans hbwK bl⟩
end Go.Proofs.YtehcjlkgfgpjnaaGreatDoor
