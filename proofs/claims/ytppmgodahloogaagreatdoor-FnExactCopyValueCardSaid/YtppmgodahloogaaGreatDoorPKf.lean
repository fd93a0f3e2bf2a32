/- CopyValue: the reference. -/
import Derived.Test.YtppmgodahloogaaGreatDoorPr
import Derived.Test.YtppmgodahloogaaGreatDoorPK2b
import Derived.Test.YtppmgodahloogaaGreatDoorPK5
import Derived.Test.YtppmgodahloogaaGreatDoorPS2z
import Derived.Test.YtppmgodahloogaaGreatDoorPK9
import Derived.Test.YtppmgodahloogaaGreatDoorPK4
import Derived.Test.YtppmgodahloogaaGreatDoorPS3z
namespace Go.Proofs.YtppmgodahloogaaGreatDoor
set_option linter.unusedVariables false
set_option linter.unusedSimpArgs false
set_option maxRecDepth 100000
open Go.RowKit
theorem copOk_in {s:TStore} {v:VVal}:copOk s (tvOf v)=(inV s v&&dataB s v):=by
 rw[copOk_eq]
 unfold inV dataB
 cases validB s <;> cases inB s v <;> simp
set_option maxHeartbeats 4000000 in
theorem specCpy_any:CpyC 6:=by
 intro s v S w vs htab hv hx hwt
 have HX:=hide hx
 have HT:=hide htab
 have HV:=hide hv
 have HWT:=hide hwt
 obtain⟨x0,x1,x2,x3,x4,x5,x6,x7,x8,x9,x10,x11,x12⟩:=s
 obtain⟨A0,c0,A1,c1,A2,c2,A3,c3,A6,c6,A7,c7,A8,c8,rfl,g0,g1,g2,g3,g4,g5,g6,g7,g8,-,g10,g11,g12⟩:=TStore.vals hv
 have HG:=hide (show x4.size≤maxLen∧InI x5∧InI x10∧InI x11∧InI x12 from⟨g4,g5,g10,g11,g12⟩)
 rw[TStore.D_mk]at hwt
 simp only[Dat.wtL,Dat.wt,List.length_map]at hwt
 have hlc0:=g0.1
 have hcm0:=g0.2.1
 simp only[List.length_map]at hlc0
 unfold maxLen at hcm0
 have hlc1:=g1.1
 have hcm1:=g1.2.1
 simp only[List.length_map]at hlc1
 unfold maxLen at hcm1
 have hlc2:=g2.1
 have hcm2:=g2.2.1
 simp only[List.length_map]at hlc2
 unfold maxLen at hcm2
 have hlc3:=g3.1
 have hcm3:=g3.2.1
 simp only[List.length_map]at hlc3
 unfold maxLen at hcm3
 have hlc6:=g6.1
 have hcm6:=g6.2.1
 simp only[List.length_map]at hlc6
 unfold maxLen at hcm6
 have hlc7:=g7.1
 have hcm7:=g7.2.1
 simp only[List.length_map]at hlc7
 unfold maxLen at hcm7
 have hlc8:=g8.1
 have hcm8:=g8.2.1
 simp only[List.length_map]at hlc8
 unfold maxLen at hcm8
 have HSZ:=hide (show ∀(j:Nat) (h:j<x2.length),x2[j].its.length≤1048576∧x2[j].kys.length≤1048576 from fun j h=>by have:=wt_objs x2 j h;omega)
 have hl2:x2.length≤1048576:=by omega
 obtain⟨k,n,i,t,lo,hi⟩:=v
 simp only[VVal.val]
 have HX6:=hide (HX.out.k)
 clear hv htab hx hwt g0 g1 g2 g3 g4 g5 g6 g7 g8 g10 g11 g12
 obtain⟨bi,hbi⟩:∃q,inV (TStore.mk x0 x1 x2 x3 x4 x5 x6 x7 x8 x9 x10 x11 x12) ⟨k,n,i,t,lo,hi⟩=q:=⟨_,rfl⟩
 obtain⟨bd,hbd⟩:∃q,dataB (TStore.mk x0 x1 x2 x3 x4 x5 x6 x7 x8 x9 x10 x11 x12) ⟨k,n,i,t,lo,hi⟩=q:=⟨_,rfl⟩
 have HI:=hide hbi
 have HD:=hide hbd
 clear hbi hbd
 obtain⟨ok,hok⟩:∃q,copOk (TStore.mk x0 x1 x2 x3 x4 x5 x6 x7 x8 x9 x10 x11 x12) (tvOf ⟨k,n,i,t,lo,hi⟩)=q:=⟨_,rfl⟩
 have HO:=hide hok
 have hob:ok=(bi&&bd):=by rw[←hok,←HI.out,←HD.out];exact copOk_in
 have HOB:=hide hob
 clear hok hob
 go_enter Tryz.func6,Tryz.ntmps6
 go_upto_region 1 with (fail)
 refine wp_named2 fun w1 hw1=>?_
 have hbw:Bel w w1:=by rw[←hw1];exact bl
 obtain⟨a1,ha1⟩:∃x,w.alloc (.cells #[.slice A0 x0.length c0,.slice A1 x1.length c1,.slice A2 x2.length c2,.slice A3 x3.length c3,.string x4,.int .i64 x5,.slice A6 x6.length c6,.slice A7 x7.length c7,.slice A8 x8.length c8,.bool x9,.int .i64 x10,.int .i64 x11,.int .i64 x12] 40)=x:=⟨_,rfl⟩
 obtain⟨a2,ha2⟩:∃x,a1.alloc (.cells #[.int .i64 k,.int .i64 n,.int .i64 i,.string t,.int .i64 lo,.int .i64 hi] 43)=x:=⟨_,rfl⟩
 obtain⟨a3,ha3⟩:∃x,a2.alloc (.cells #[.slice none 0 0,.slice none 0 0,.slice none 0 0,.slice none 0 0,.string ByteArray.empty,.int .i64 0,.slice none 0 0,.slice none 0 0,.slice none 0 0,.bool false,.int .i64 0,.int .i64 0,.int .i64 0] 40)=x:=⟨_,rfl⟩
 replace hw1:a3.alloc (.cells #[.int .i64 0,.int .i64 0,.int .i64 0,.string ByteArray.empty,.int .i64 0,.int .i64 0] 43)=w1:=by rw[←ha3,←ha2,←ha1];exact hw1
 have q1:a1.heap.size=w.heap.size+1:=by rw[←ha1];simp
 have q2:a2.heap.size=w.heap.size+1+1:=by rw[←ha2];simp[q1]
 have q3:a3.heap.size=w.heap.size+1+1+1:=by rw[←ha3];simp[q2]
 have e1:Bel a1 w1:=by rw[←hw1,←ha3,←ha2];exact bl
 have e2:Bel a2 w1:=by rw[←hw1,←ha3];exact bl
 have e3:Bel a3 w1:=by rw[←hw1];exact bl
 have HA:=hide (show SB w1 (w.heap.size) (.slice A0 x0.length c0) (.slice A1 x1.length c1) (.slice A2 x2.length c2) (.slice A3 x3.length c3) (.string x4) (.int .i64 x5) (.slice A6 x6.length c6) (.slice A7 x7.length c7) (.slice A8 x8.length c8) (.bool x9) (.int .i64 x10) (.int .i64 x11) (.int .i64 x12)from SB.on (by rw[←ha1];exact SB.new _ _) e1)
 have HSt:=hide (show StoreAt w1 S (w.heap.size) (TStore.mk x0 x1 x2 x3 x4 x5 x6 x7 x8 x9 x10 x11 x12)from StoreAt.bel e1 (by rw[←ha1];exact StoreAt.mk_of (HV.out) rfl))
 have HB:=hide (show VB w1 (w.heap.size+1) k n i t lo hi from VB.on (by rw[←ha2,←q1];exact⟨by simp,by simp[go_sem],by simp[go_sem],by simp[go_sem],by simp[go_sem],by simp[go_sem],by simp[go_sem]⟩) e2)
 have HC:=hide (show SB w1 (w.heap.size+1+1) (.slice none 0 0) (.slice none 0 0) (.slice none 0 0) (.slice none 0 0) (.string ByteArray.empty) (.int .i64 0) (.slice none 0 0) (.slice none 0 0) (.slice none 0 0) (.bool false) (.int .i64 0) (.int .i64 0) (.int .i64 0)from SB.on (by rw[←ha3,←q2];exact SB.new _ _) e3)
 have HZ:=hide (show Z6 w1 (w.heap.size+1+1+1)from by rw[←hw1,←q3];exact Z6.new)
 clear q1 q2 q3 e1 e2 e3 hw1 ha1 ha2 ha3 a1 a2 a3
 obtain⟨hla,hfa,ka_0,ka_1,ka_2,ka_3,ka_4,ka_5,ka_6,ka_7,ka_8,ka_9,ka_10,ka_11,ka_12⟩:=HA.out
 obtain⟨hlv,y0,y1,y2,y3,y4,y5⟩:=HB.out
 go_cut [17]from 9 (fun c wx=>c=.bool (!ok)∧Bel w1 wx)
 case first =>
  skip
  cases bi
  ·
   have hoq:=HOB.out
   simp only[Bool.false_and]at hoq
   subst hoq
   go_wp2_with (go_at_call 19;refine (specValueIn_any (TStore.mk x0 x1 x2 x3 x4 x5 x6 x7 x8 x9 x10 x11 x12) ⟨k,n,i,t,lo,hi⟩ S _ _ (Dat.HoldVals.bel hbw HV.out) HX.out).mono ?_;rintro e w2 ⟨rfl,hb2⟩;rw[HI.out];obtain⟨hlv2,z0,z1,z2,z3,z4,z5⟩:=HB.out.on hb2)
   all_goals go_meet
   all_goals exact⟨rfl,hb2⟩
  ·
   cases bd
   ·
    have hoq:=HOB.out
    simp only[Bool.and_false]at hoq
    exact rk146
   ·
    have hoq:=HOB.out
    simp only[Bool.and_true]at hoq
    exact rk146
 clear hla hfa ka_0 ka_1 ka_2 ka_3 ka_4 ka_5 ka_6 ka_7 ka_8 ka_9 ka_10 ka_11 ka_12
 case rest =>
  obtain⟨rfl,hb3⟩:=hcut
  obtain⟨w3,rfl⟩:∃w3,w3=wc:=⟨_,rfl⟩
  have hbw3:=hbw.trans hb3
  have HA3:=hide (HA.out.on hb3)
  have HB3:=hide (HB.out.on hb3)
  have HC3:=hide (HC.out.on hb3)
  have HZ3:=hide (HZ.out.on hb3)
  have hz3:=hb3.size
  have hw3z:w.heap.size+1+1+1<w3.heap.size:=HZ3.out.2.2.2.2.2.2.2
  clear HA HB HC HZ HSt hb3
  (try clear hla hfa ka_0 ka_1 ka_2 ka_3 ka_4 ka_5 ka_6 ka_7 ka_8 ka_9 ka_10 ka_11 ka_12 hlv y0 y1 y2 y3 y4 y5)
  cases ok
  ·
   skip
   obtain⟨hlc,hfc,kc_0,kc_1,kc_2,kc_3,kc_4,kc_5,kc_6,kc_7,kc_8,kc_9,kc_10,kc_11,kc_12⟩:=HC3.out
   obtain⟨cz0,cz1,cz2,cz3,cz4,cz5,cz6,cz7⟩:=HZ3.out
   (try simp only[Bool.not_false])
   go_wp2_with (fail)
   all_goals exact bodyPost_ret (v:=.tuple #[.agg #[.slice none 0 0,.slice none 0 0,.slice none 0 0,.slice none 0 0,.string ByteArray.empty,.int .i64 0,.slice none 0 0,.slice none 0 0,.slice none 0 0,.bool false,.int .i64 0,.int .i64 0,.int .i64 0],.agg #[.int .i64 0,.int .i64 0,.int .i64 0,.string ByteArray.empty,.int .i64 0,.int .i64 0],.bool false]) (by simp[results,Tryz.results6,go_sem, * ];try rfl) rfl (cpy_fail HO.out bl)
  ·
   skip
   (try simp only[Bool.not_true])
   have hbd:bd=true:=by have h:=HOB.out;revert h;cases bi <;> cases bd <;> decide
   subst hbd
   obtain⟨hla,hfa,ka_0,ka_1,ka_2,ka_3,ka_4,ka_5,ka_6,ka_7,ka_8,ka_9,ka_10,ka_11,ka_12⟩:=HA3.out
   obtain⟨hlv,y0,y1,y2,y3,y4,y5⟩:=HB3.out
   go_upto_region 4 with (go_at_call 21;refine (specClone_any x0 x1 x2 x3 x4 x5 x6 x7 x8 x9 x10 x11 x12 S _ _ (Dat.HoldVals.bel hbw3 HV.out) HWT.out).mono ?_;rintro e w4 ⟨v0,v1,v2,v3,v6,v7,v8,L0,L1,L2,L3,L6,L7,L8,rfl,hE,hb4⟩;obtain⟨B0,d0,-,e0,-⟩:=(hE.own ⟨9,1,v0,L0,x0.map (fun x=>[Dat.str x])⟩ (by simp)).ownRow;simp only[List.length_map]at e0;subst e0;obtain⟨B1,d1,-,e1,-⟩:=(hE.own ⟨92,3,v1,L1,x1.map TRecordType.D⟩ (by simp)).ownRow;simp only[List.length_map]at e1;subst e1;obtain⟨B2,d2,-,e2,-⟩:=(hE.own ⟨89,5,v2,L2,x2.map TObject.D⟩ (by simp)).ownRow;simp only[List.length_map]at e2;subst e2;obtain⟨B3,d3,-,e3,-⟩:=(hE.own ⟨43,6,v3,L3,x3.map TValue.D⟩ (by simp)).ownRow;simp only[List.length_map]at e3;subst e3;obtain⟨B6,d6,-,e6,-⟩:=(hE.own ⟨9,1,v6,L6,x6.map (fun x=>[Dat.str x])⟩ (by simp)).ownRow;simp only[List.length_map]at e6;subst e6;obtain⟨B7,d7,-,e7,-⟩:=(hE.own ⟨9,1,v7,L7,x7.map (fun x=>[Dat.str x])⟩ (by simp)).ownRow;simp only[List.length_map]at e7;subst e7;obtain⟨B8,d8,-,e8,-⟩:=(hE.own ⟨96,2,v8,L8,x8.map TActive.D⟩ (by simp)).ownRow;simp only[List.length_map]at e8;subst e8;have HE:=hide hE;clear hE)
   refine wp_named2 fun wr hwr=>?_
   have hb4r:Bel w4 wr:=by rw[←hwr];exact bl
   have hb3r:=hb4.trans hb4r
   have SR:=(show SB wr w4.heap.size (.slice B0 x0.length d0) (.slice B1 x1.length d1) (.slice B2 x2.length d2) (.slice B3 x3.length d3) (.string x4) (.int .i64 x5) (.slice B6 x6.length d6) (.slice B7 x7.length d7) (.slice B8 x8.length d8) (.bool x9) (.int .i64 x10) (.int .i64 x11) (.int .i64 x12)from by rw[←hwr];exact SB.new _ _)
   have hzr:w4.heap.size<wr.heap.size:=SR.1
   clear hwr
   clear hla hfa ka_0 ka_1 ka_2 ka_3 ka_4 ka_5 ka_6 ka_7 ka_8 ka_9 ka_10 ka_11 ka_12
   clear hlv y0 y1 y2 y3 y4 y5
   have HMK:=hide (show MkS w3.heap.size wr w4.heap.size (.slice B0 x0.length d0) (.slice B1 x1.length d1) (.slice B2 x2.length d2) (.slice B3 x3.length d3) (.string x4) (.int .i64 x5) (.slice B6 x6.length d6) (.slice B7 x7.length d7) (.slice B8 x8.length d8) (.bool x9) (.int .i64 x10) (.int .i64 x11) (.int .i64 x12) [⟨9,1,.slice B0 x0.length d0,L0,x0.map (fun x=>[Dat.str x])⟩,⟨92,3,.slice B1 x1.length d1,L1,x1.map TRecordType.D⟩] [⟨43,6,.slice B3 x3.length d3,L3,x3.map TValue.D⟩,⟨9,1,.slice B6 x6.length d6,L6,x6.map (fun x=>[Dat.str x])⟩,⟨9,1,.slice B7 x7.length d7,L7,x7.map (fun x=>[Dat.str x])⟩,⟨96,2,.slice B8 x8.length d8,L8,x8.map TActive.D⟩] L2 (x2.map TObject.D)from⟨SR,HE.out.bel hb4r,fun f hf hc=>Nat.lt_irrefl _ ((HE.out.own f hf).lt _ hc)⟩)
   have hv2:∀b,Value.ownBlock (.slice B2 x2.length d2)=some b→w3.heap.size≤b:=fun b hb=>HE.out.low ⟨89,5,.slice B2 x2.length d2,L2,x2.map TObject.D⟩ (by simp) b (Or.inl hb)
   have HV2:=hide hv2
   have hz4:=hb4.size
   clear SR HE hv2
   generalize w4.heap.size=q at HMK hzr hz4 ⊢
   have hw3w:w.heap.size≤w3.heap.size:=by omega
   have HB4:=hide (HB3.out.on hb3r)
   have HC4:=hide (HC3.out.on hb3r)
   have HZ4:=hide (HZ3.out.on hb3r)
   have hbwr:=hbw3.trans hb3r
   have hzrr:=hb3r.size
   clear HA3 HB3 HC3 HZ3 hb4 hb4r hb3r hbw3 w4
   obtain⟨hlv,y0,y1,y2,y3,y4,y5⟩:=HB4.out
   go_upto_region 5 with (go_at_call 22;refine (specCopy_any w3.heap.size wr q (.slice B0 x0.length d0) (.slice B1 x1.length d1) (.slice B2 x2.length d2) (.slice B3 x3.length d3) (.string x4) (.int .i64 x5) (.slice B6 x6.length d6) (.slice B7 x7.length d7) (.slice B8 x8.length d8) (.bool x9) (.int .i64 x10) (.int .i64 x11) x12 [⟨9,1,.slice B0 x0.length d0,L0,x0.map (fun x=>[Dat.str x])⟩,⟨92,3,.slice B1 x1.length d1,L1,x1.map TRecordType.D⟩] [⟨43,6,.slice B3 x3.length d3,L3,x3.map TValue.D⟩,⟨9,1,.slice B6 x6.length d6,L6,x6.map (fun x=>[Dat.str x])⟩,⟨9,1,.slice B7 x7.length d7,L7,x7.map (fun x=>[Dat.str x])⟩,⟨96,2,.slice B8 x8.length d8,L8,x8.map TActive.D⟩] L2 x2 k n i t lo hi HMK.out (fun hc=>dataB_obj HD.out hc) hl2 HSZ.out (by omega)).mono ?_;intro e w5 hP;obtain⟨yy,LL,rfl,hM5,ho5⟩:=hP.out HMK.out;simp only[VVal.val];have HM5:=hide hM5;have HO5:=hide ho5;clear hP hM5 ho5)
   refine wp_named2 fun w6 hw6=>?_
   have hb56:Bel w5 w6:=by rw[←hw6];exact bl
   clear hlv y0 y1 y2 y3 y4 y5
   obtain⟨By,dy,-,ey,-⟩:=(HM5.out.ents.own ⟨89,5,yy,LL,(copO x2 x12 k n).map TObject.D⟩ (by simp)).ownRow
   simp only[List.length_map]at ey
   subst ey
   obtain⟨vv,hvv⟩:∃x,copVV x2 ⟨k,n,i,t,lo,hi⟩=x:=⟨_,rfl⟩
   rw[hvv]at hw6 ⊢
   have HVV:=hide hvv
   clear hvv
   obtain⟨vk,vn,vi,vt,vlo,vhi⟩:=vv
   simp only at hw6 ⊢
   have HB8:=hide (show VB w6 w5.heap.size vk vn vi vt vlo vhi from by rw[←hw6];exact⟨by simp,by simp[go_sem],by simp[go_sem],by simp[go_sem],by simp[go_sem],by simp[go_sem],by simp[go_sem]⟩)
   clear hw6
   have h5z:=HO5.out.size
   have hq5:q<w5.heap.size:=HM5.out.box.1
   have HM6:=hide (HM5.out.on hb56)
   have hO6:=HO5.out.bel hb56
   have HO6:=hide hO6
   have HC6:=hide (HC4.out.block hO6.size (hO6.block (w.heap.size+1+1) ⟨by omega,fun e=>by have:=HV2.out _ e;omega⟩ (by omega)))
   have HZ6:=hide (HZ4.out.block hO6.size (hO6.block (w.heap.size+1+1+1) ⟨by omega,fun e=>by have:=HV2.out _ e;omega⟩ (by omega)))
   have hbw6:=hO6.toBel hbwr (fun x hx=>⟨by omega,fun e=>by have:=HV2.out _ e;omega⟩)
   clear HM5 HC4 HZ4 HB4 HMK HO5 hO6
   generalize w5.heap.size=b8 at HB8 hq5 ⊢
   obtain⟨hlq,hfq,kq_0,kq_1,kq_2,kq_3,kq_4,kq_5,kq_6,kq_7,kq_8,kq_9,kq_10,kq_11,kq_12⟩:=HM6.out.box
   obtain⟨hlv,y0,y1,y2,y3,y4,y5⟩:=HB8.out
   obtain⟨hlc,hfc,kc_0,kc_1,kc_2,kc_3,kc_4,kc_5,kc_6,kc_7,kc_8,kc_9,kc_10,kc_11,kc_12⟩:=HC6.out
   obtain⟨cz0,cz1,cz2,cz3,cz4,cz5,cz6,cz7⟩:=HZ6.out
   go_region
   refine ex_named (Q:=Exit.then _ _) fun w7 hw7=>?_
   obtain⟨S7,⟨m0,m1,m2,m3,m4,m5⟩,o7⟩:=put19 HC6.out HZ6.out (by omega) hw7
   clear hw7
   obtain⟨-,-,s0,s1,s2,s3,s4,s5,s6,s7,s8,s9,s10,s11,s12⟩:=S7
   have hE7:Ents w3.heap.size w7 [⟨9,1,.slice B0 x0.length d0,L0,x0.map (fun x=>[Dat.str x])⟩,⟨92,3,.slice B1 x1.length d1,L1,x1.map TRecordType.D⟩,⟨89,5,.slice By (copO x2 x12 k n).length dy,LL,(copO x2 x12 k n).map TObject.D⟩,⟨43,6,.slice B3 x3.length d3,L3,x3.map TValue.D⟩,⟨9,1,.slice B6 x6.length d6,L6,x6.map (fun x=>[Dat.str x])⟩,⟨9,1,.slice B7 x7.length d7,L7,x7.map (fun x=>[Dat.str x])⟩,⟨96,2,.slice B8 x8.length d8,L8,x8.map TActive.D⟩]:=HM6.out.ents.keep o7.size fun e he x hx=>by have h1:=HM6.out.ents.low e he x hx;exact o7.block x ⟨by omega,by omega⟩ ((HM6.out.ents.own e he).lt x hx)
   obtain⟨LF,hOF,hNF,hLF⟩:=ents_own hE7 HG.out.1 HG.out.2.1 HG.out.2.2.1 HG.out.2.2.2.1 (copM_ok (k:=k) HG.out.2.2.2.2)
   have hbw7:=o7.toBel hbw6 (fun x hx=>⟨by omega,by omega⟩)
   have HOF:=hide hOF
   have HLF:=hide (show ∀b,b∈LF→w.heap.size≤b from fun b hb=>by have:=hLF b hb;omega)
   have HNF:=hide hNF
   (try clear hOF)
   (try clear hLF)
   (try clear hNF)
   (try clear hlq)
   (try clear hfq)
   (try clear kq_0)
   (try clear kq_1)
   (try clear kq_2)
   (try clear kq_3)
   (try clear kq_4)
   (try clear kq_5)
   (try clear kq_6)
   (try clear kq_7)
   (try clear kq_8)
   (try clear kq_9)
   (try clear kq_10)
   (try clear kq_11)
   (try clear kq_12)
   (try clear hlv)
   (try clear y0)
   (try clear y1)
   (try clear y2)
   (try clear y3)
   (try clear y4)
   (try clear y5)
   (try clear hlc)
   (try clear hfc)
   (try clear kc_0)
   (try clear kc_1)
   (try clear kc_2)
   (try clear kc_3)
   (try clear kc_4)
   (try clear kc_5)
   (try clear kc_6)
   (try clear kc_7)
   (try clear kc_8)
   (try clear kc_9)
   (try clear kc_10)
   (try clear kc_11)
   (try clear kc_12)
   (try clear cz0)
   (try clear cz1)
   (try clear cz2)
   (try clear cz3)
   (try clear cz4)
   (try clear cz5)
   (try clear cz6)
   (try clear cz7)
   go_wp2_with (fail)
   exact bodyPost_ret (v:=.tuple #[.agg #[.slice B0 x0.length d0,.slice B1 x1.length d1,.slice By (copO x2 x12 k n).length dy,.slice B3 x3.length d3,.string x4,.int .i64 x5,.slice B6 x6.length d6,.slice B7 x7.length d7,.slice B8 x8.length d8,.bool x9,.int .i64 x10,.int .i64 x11,.int .i64 (copM x12 k)],.agg #[.int .i64 vk,.int .i64 vn,.int .i64 vi,.string vt,.int .i64 vlo,.int .i64 vhi],.bool true]) (by simp[results,Tryz.results6,go_sem,s0,s1,s2,s3,s4,s5,s6,s7,s8,s9,s10,s11,s12,m0,m1,m2,m3,m4,m5];try rfl) rfl ⟨_,LF,by rw[HO.out];unfold copW;rw[if_pos HO.out,copV_eq,HVV.out];rfl,by unfold copT;rw[if_pos HO.out,copS_eq];exact HOF.out,HNF.out,HLF.out,hbw7⟩
end Go.Proofs.YtppmgodahloogaaGreatDoor
namespace Go.Proofs.YtppmgodahloogaaGreatDoor
set_option linter.unusedVariables false
set_option linter.unusedSimpArgs false
set_option maxRecDepth 100000
open Go.RowKit
set_option maxHeartbeats 4000000 in
theorem implCpy_any:CpyC 9:=by
 intro s v S w vs htab hv hx hwt
 have HX:=hide hx
 have HT:=hide htab
 have HV:=hide hv
 have HWT:=hide hwt
 obtain⟨x0,x1,x2,x3,x4,x5,x6,x7,x8,x9,x10,x11,x12⟩:=s
 obtain⟨A0,c0,A1,c1,A2,c2,A3,c3,A6,c6,A7,c7,A8,c8,rfl,g0,g1,g2,g3,g4,g5,g6,g7,g8,-,g10,g11,g12⟩:=TStore.vals hv
 have HG:=hide (show x4.size≤maxLen∧InI x5∧InI x10∧InI x11∧InI x12 from⟨g4,g5,g10,g11,g12⟩)
 rw[TStore.D_mk]at hwt
 simp only[Dat.wtL,Dat.wt,List.length_map]at hwt
 have hlc0:=g0.1
 have hcm0:=g0.2.1
 simp only[List.length_map]at hlc0
 unfold maxLen at hcm0
 have hlc1:=g1.1
 have hcm1:=g1.2.1
 simp only[List.length_map]at hlc1
 unfold maxLen at hcm1
 have hlc2:=g2.1
 have hcm2:=g2.2.1
 simp only[List.length_map]at hlc2
 unfold maxLen at hcm2
 have hlc3:=g3.1
 have hcm3:=g3.2.1
 simp only[List.length_map]at hlc3
 unfold maxLen at hcm3
 have hlc6:=g6.1
 have hcm6:=g6.2.1
 simp only[List.length_map]at hlc6
 unfold maxLen at hcm6
 have hlc7:=g7.1
 have hcm7:=g7.2.1
 simp only[List.length_map]at hlc7
 unfold maxLen at hcm7
 have hlc8:=g8.1
 have hcm8:=g8.2.1
 simp only[List.length_map]at hlc8
 unfold maxLen at hcm8
 have HSZ:=hide (show ∀(j:Nat) (h:j<x2.length),x2[j].its.length≤1048576∧x2[j].kys.length≤1048576 from fun j h=>by have:=wt_objs x2 j h;omega)
 have hl2:x2.length≤1048576:=by omega
 obtain⟨k,n,i,t,lo,hi⟩:=v
 simp only[VVal.val]
 have HX6:=hide (HX.out.k)
 clear hv htab hx hwt g0 g1 g2 g3 g4 g5 g6 g7 g8 g10 g11 g12
 obtain⟨bi,hbi⟩:∃q,validB (TStore.mk x0 x1 x2 x3 x4 x5 x6 x7 x8 x9 x10 x11 x12)=q:=⟨_,rfl⟩
 obtain⟨bd,hbd⟩:∃q,dataB (TStore.mk x0 x1 x2 x3 x4 x5 x6 x7 x8 x9 x10 x11 x12) ⟨k,n,i,t,lo,hi⟩=q:=⟨_,rfl⟩
 have HI:=hide hbi
 have HD:=hide hbd
 clear hbi hbd
 obtain⟨ok,hok⟩:∃q,copOk (TStore.mk x0 x1 x2 x3 x4 x5 x6 x7 x8 x9 x10 x11 x12) (tvOf ⟨k,n,i,t,lo,hi⟩)=q:=⟨_,rfl⟩
 have HO:=hide hok
 have hob:ok=(bi&&bd):=by rw[←hok,←HI.out,←HD.out];rfl
 have HOB:=hide hob
 clear hok hob
 go_enter Tryz.func9,Tryz.ntmps9
 go_upto_region 1 with (fail)
 refine wp_named2 fun w1 hw1=>?_
 have hbw:Bel w w1:=by rw[←hw1];exact bl
 obtain⟨a1,ha1⟩:∃x,w.alloc (.cells #[.slice A0 x0.length c0,.slice A1 x1.length c1,.slice A2 x2.length c2,.slice A3 x3.length c3,.string x4,.int .i64 x5,.slice A6 x6.length c6,.slice A7 x7.length c7,.slice A8 x8.length c8,.bool x9,.int .i64 x10,.int .i64 x11,.int .i64 x12] 40)=x:=⟨_,rfl⟩
 obtain⟨a2,ha2⟩:∃x,a1.alloc (.cells #[.int .i64 k,.int .i64 n,.int .i64 i,.string t,.int .i64 lo,.int .i64 hi] 43)=x:=⟨_,rfl⟩
 obtain⟨a3,ha3⟩:∃x,a2.alloc (.cells #[.slice none 0 0,.slice none 0 0,.slice none 0 0,.slice none 0 0,.string ByteArray.empty,.int .i64 0,.slice none 0 0,.slice none 0 0,.slice none 0 0,.bool false,.int .i64 0,.int .i64 0,.int .i64 0] 40)=x:=⟨_,rfl⟩
 replace hw1:a3.alloc (.cells #[.int .i64 0,.int .i64 0,.int .i64 0,.string ByteArray.empty,.int .i64 0,.int .i64 0] 43)=w1:=by rw[←ha3,←ha2,←ha1];exact hw1
 have q1:a1.heap.size=w.heap.size+1:=by rw[←ha1];simp
 have q2:a2.heap.size=w.heap.size+1+1:=by rw[←ha2];simp[q1]
 have q3:a3.heap.size=w.heap.size+1+1+1:=by rw[←ha3];simp[q2]
 have e1:Bel a1 w1:=by rw[←hw1,←ha3,←ha2];exact bl
 have e2:Bel a2 w1:=by rw[←hw1,←ha3];exact bl
 have e3:Bel a3 w1:=by rw[←hw1];exact bl
 have HA:=hide (show SB w1 (w.heap.size) (.slice A0 x0.length c0) (.slice A1 x1.length c1) (.slice A2 x2.length c2) (.slice A3 x3.length c3) (.string x4) (.int .i64 x5) (.slice A6 x6.length c6) (.slice A7 x7.length c7) (.slice A8 x8.length c8) (.bool x9) (.int .i64 x10) (.int .i64 x11) (.int .i64 x12)from SB.on (by rw[←ha1];exact SB.new _ _) e1)
 have HSt:=hide (show StoreAt w1 S (w.heap.size) (TStore.mk x0 x1 x2 x3 x4 x5 x6 x7 x8 x9 x10 x11 x12)from StoreAt.bel e1 (by rw[←ha1];exact StoreAt.mk_of (HV.out) rfl))
 have HB:=hide (show VB w1 (w.heap.size+1) k n i t lo hi from VB.on (by rw[←ha2,←q1];exact⟨by simp,by simp[go_sem],by simp[go_sem],by simp[go_sem],by simp[go_sem],by simp[go_sem],by simp[go_sem]⟩) e2)
 have HC:=hide (show SB w1 (w.heap.size+1+1) (.slice none 0 0) (.slice none 0 0) (.slice none 0 0) (.slice none 0 0) (.string ByteArray.empty) (.int .i64 0) (.slice none 0 0) (.slice none 0 0) (.slice none 0 0) (.bool false) (.int .i64 0) (.int .i64 0) (.int .i64 0)from SB.on (by rw[←ha3,←q2];exact SB.new _ _) e3)
 have HZ:=hide (show Z6 w1 (w.heap.size+1+1+1)from by rw[←hw1,←q3];exact Z6.new)
 clear q1 q2 q3 e1 e2 e3 hw1 ha1 ha2 ha3 a1 a2 a3
 obtain⟨hla,hfa,ka_0,ka_1,ka_2,ka_3,ka_4,ka_5,ka_6,ka_7,ka_8,ka_9,ka_10,ka_11,ka_12⟩:=HA.out
 obtain⟨hlv,y0,y1,y2,y3,y4,y5⟩:=HB.out
 go_cut [16]from 9 (fun c wx=>c=.bool (!ok)∧Bel w1 wx)
 case first =>
  skip
  cases bi
  ·
   have hoq:=HOB.out
   simp only[Bool.false_and]at hoq
   subst hoq
   go_wp2_with (go_at_call 29;refine (implValid_any (TStore.mk x0 x1 x2 x3 x4 x5 x6 x7 x8 x9 x10 x11 x12) S _ _ (HT.out.on hbw) (Dat.HoldVals.bel hbw HV.out)).mono ?_;rintro e w2 ⟨rfl,hb2⟩;rw[HI.out];obtain⟨hlv2,z0,z1,z2,z3,z4,z5⟩:=HB.out.on hb2)
   all_goals go_meet
   all_goals exact⟨rfl,hb2⟩
  ·
   cases bd
   ·
    have hoq:=HOB.out
    simp only[Bool.and_false]at hoq
    exact rk149
   ·
    have hoq:=HOB.out
    simp only[Bool.and_true]at hoq
    exact rk149
 clear hla hfa ka_0 ka_1 ka_2 ka_3 ka_4 ka_5 ka_6 ka_7 ka_8 ka_9 ka_10 ka_11 ka_12
 case rest =>
  obtain⟨rfl,hb3⟩:=hcut
  obtain⟨w3,rfl⟩:∃w3,w3=wc:=⟨_,rfl⟩
  have hbw3:=hbw.trans hb3
  have HA3:=hide (HA.out.on hb3)
  have HB3:=hide (HB.out.on hb3)
  have HC3:=hide (HC.out.on hb3)
  have HZ3:=hide (HZ.out.on hb3)
  have hz3:=hb3.size
  have hw3z:w.heap.size+1+1+1<w3.heap.size:=HZ3.out.2.2.2.2.2.2.2
  clear HA HB HC HZ HSt hb3
  (try clear hla hfa ka_0 ka_1 ka_2 ka_3 ka_4 ka_5 ka_6 ka_7 ka_8 ka_9 ka_10 ka_11 ka_12 hlv y0 y1 y2 y3 y4 y5)
  cases ok
  ·
   skip
   obtain⟨hlc,hfc,kc_0,kc_1,kc_2,kc_3,kc_4,kc_5,kc_6,kc_7,kc_8,kc_9,kc_10,kc_11,kc_12⟩:=HC3.out
   obtain⟨cz0,cz1,cz2,cz3,cz4,cz5,cz6,cz7⟩:=HZ3.out
   (try simp only[Bool.not_false])
   go_wp2_with (fail)
   all_goals exact bodyPost_ret (v:=.tuple #[.agg #[.slice none 0 0,.slice none 0 0,.slice none 0 0,.slice none 0 0,.string ByteArray.empty,.int .i64 0,.slice none 0 0,.slice none 0 0,.slice none 0 0,.bool false,.int .i64 0,.int .i64 0,.int .i64 0],.agg #[.int .i64 0,.int .i64 0,.int .i64 0,.string ByteArray.empty,.int .i64 0,.int .i64 0],.bool false]) (by simp[results,Tryz.results9,go_sem, * ];try rfl) rfl (cpy_fail HO.out bl)
  ·
   skip
   (try simp only[Bool.not_true])
   have hbd:bd=true:=by have h:=HOB.out;revert h;cases bi <;> cases bd <;> decide
   subst hbd
   obtain⟨hla,hfa,ka_0,ka_1,ka_2,ka_3,ka_4,ka_5,ka_6,ka_7,ka_8,ka_9,ka_10,ka_11,ka_12⟩:=HA3.out
   obtain⟨hlv,y0,y1,y2,y3,y4,y5⟩:=HB3.out
   go_upto_region 4 with (go_at_call 31;refine (implClone_any x0 x1 x2 x3 x4 x5 x6 x7 x8 x9 x10 x11 x12 S _ _ (Dat.HoldVals.bel hbw3 HV.out) HWT.out).mono ?_;rintro e w4 ⟨v0,v1,v2,v3,v6,v7,v8,L0,L1,L2,L3,L6,L7,L8,rfl,hE,hb4⟩;obtain⟨B0,d0,-,e0,-⟩:=(hE.own ⟨9,1,v0,L0,x0.map (fun x=>[Dat.str x])⟩ (by simp)).ownRow;simp only[List.length_map]at e0;subst e0;obtain⟨B1,d1,-,e1,-⟩:=(hE.own ⟨92,3,v1,L1,x1.map TRecordType.D⟩ (by simp)).ownRow;simp only[List.length_map]at e1;subst e1;obtain⟨B2,d2,-,e2,-⟩:=(hE.own ⟨89,5,v2,L2,x2.map TObject.D⟩ (by simp)).ownRow;simp only[List.length_map]at e2;subst e2;obtain⟨B3,d3,-,e3,-⟩:=(hE.own ⟨43,6,v3,L3,x3.map TValue.D⟩ (by simp)).ownRow;simp only[List.length_map]at e3;subst e3;obtain⟨B6,d6,-,e6,-⟩:=(hE.own ⟨9,1,v6,L6,x6.map (fun x=>[Dat.str x])⟩ (by simp)).ownRow;simp only[List.length_map]at e6;subst e6;obtain⟨B7,d7,-,e7,-⟩:=(hE.own ⟨9,1,v7,L7,x7.map (fun x=>[Dat.str x])⟩ (by simp)).ownRow;simp only[List.length_map]at e7;subst e7;obtain⟨B8,d8,-,e8,-⟩:=(hE.own ⟨96,2,v8,L8,x8.map TActive.D⟩ (by simp)).ownRow;simp only[List.length_map]at e8;subst e8;have HE:=hide hE;clear hE)
   refine wp_named2 fun wr hwr=>?_
   have hb4r:Bel w4 wr:=by rw[←hwr];exact bl
   have hb3r:=hb4.trans hb4r
   have SR:=(show SB wr w4.heap.size (.slice B0 x0.length d0) (.slice B1 x1.length d1) (.slice B2 x2.length d2) (.slice B3 x3.length d3) (.string x4) (.int .i64 x5) (.slice B6 x6.length d6) (.slice B7 x7.length d7) (.slice B8 x8.length d8) (.bool x9) (.int .i64 x10) (.int .i64 x11) (.int .i64 x12)from by rw[←hwr];exact SB.new _ _)
   have hzr:w4.heap.size<wr.heap.size:=SR.1
   clear hwr
   clear hla hfa ka_0 ka_1 ka_2 ka_3 ka_4 ka_5 ka_6 ka_7 ka_8 ka_9 ka_10 ka_11 ka_12
   clear hlv y0 y1 y2 y3 y4 y5
   have HMK:=hide (show MkS w3.heap.size wr w4.heap.size (.slice B0 x0.length d0) (.slice B1 x1.length d1) (.slice B2 x2.length d2) (.slice B3 x3.length d3) (.string x4) (.int .i64 x5) (.slice B6 x6.length d6) (.slice B7 x7.length d7) (.slice B8 x8.length d8) (.bool x9) (.int .i64 x10) (.int .i64 x11) (.int .i64 x12) [⟨9,1,.slice B0 x0.length d0,L0,x0.map (fun x=>[Dat.str x])⟩,⟨92,3,.slice B1 x1.length d1,L1,x1.map TRecordType.D⟩] [⟨43,6,.slice B3 x3.length d3,L3,x3.map TValue.D⟩,⟨9,1,.slice B6 x6.length d6,L6,x6.map (fun x=>[Dat.str x])⟩,⟨9,1,.slice B7 x7.length d7,L7,x7.map (fun x=>[Dat.str x])⟩,⟨96,2,.slice B8 x8.length d8,L8,x8.map TActive.D⟩] L2 (x2.map TObject.D)from⟨SR,HE.out.bel hb4r,fun f hf hc=>Nat.lt_irrefl _ ((HE.out.own f hf).lt _ hc)⟩)
   have hv2:∀b,Value.ownBlock (.slice B2 x2.length d2)=some b→w3.heap.size≤b:=fun b hb=>HE.out.low ⟨89,5,.slice B2 x2.length d2,L2,x2.map TObject.D⟩ (by simp) b (Or.inl hb)
   have HV2:=hide hv2
   have hz4:=hb4.size
   clear SR HE hv2
   generalize w4.heap.size=q at HMK hzr hz4 ⊢
   have hw3w:w.heap.size≤w3.heap.size:=by omega
   have HB4:=hide (HB3.out.on hb3r)
   have HC4:=hide (HC3.out.on hb3r)
   have HZ4:=hide (HZ3.out.on hb3r)
   have hbwr:=hbw3.trans hb3r
   have hzrr:=hb3r.size
   clear HA3 HB3 HC3 HZ3 hb4 hb4r hb3r hbw3 w4
   obtain⟨hlv,y0,y1,y2,y3,y4,y5⟩:=HB4.out
   go_upto_region 5 with (go_at_call 32;refine (implCopied_any w3.heap.size wr q (.slice B0 x0.length d0) (.slice B1 x1.length d1) (.slice B2 x2.length d2) (.slice B3 x3.length d3) (.string x4) (.int .i64 x5) (.slice B6 x6.length d6) (.slice B7 x7.length d7) (.slice B8 x8.length d8) (.bool x9) (.int .i64 x10) (.int .i64 x11) x12 [⟨9,1,.slice B0 x0.length d0,L0,x0.map (fun x=>[Dat.str x])⟩,⟨92,3,.slice B1 x1.length d1,L1,x1.map TRecordType.D⟩] [⟨43,6,.slice B3 x3.length d3,L3,x3.map TValue.D⟩,⟨9,1,.slice B6 x6.length d6,L6,x6.map (fun x=>[Dat.str x])⟩,⟨9,1,.slice B7 x7.length d7,L7,x7.map (fun x=>[Dat.str x])⟩,⟨96,2,.slice B8 x8.length d8,L8,x8.map TActive.D⟩] L2 x2 k n i t lo hi HMK.out (fun hc=>dataB_obj HD.out hc) hl2 HSZ.out (by omega)).mono ?_;intro e w5 hP;obtain⟨yy,LL,rfl,hM5,ho5⟩:=hP.out HMK.out;simp only[VVal.val];have HM5:=hide hM5;have HO5:=hide ho5;clear hP hM5 ho5)
   refine wp_named2 fun w6 hw6=>?_
   have hb56:Bel w5 w6:=by rw[←hw6];exact bl
   clear hlv y0 y1 y2 y3 y4 y5
   obtain⟨By,dy,-,ey,-⟩:=(HM5.out.ents.own ⟨89,5,yy,LL,(copO x2 x12 k n).map TObject.D⟩ (by simp)).ownRow
   simp only[List.length_map]at ey
   subst ey
   obtain⟨vv,hvv⟩:∃x,copVV x2 ⟨k,n,i,t,lo,hi⟩=x:=⟨_,rfl⟩
   rw[hvv]at hw6 ⊢
   have HVV:=hide hvv
   clear hvv
   obtain⟨vk,vn,vi,vt,vlo,vhi⟩:=vv
   simp only at hw6 ⊢
   have HB8:=hide (show VB w6 w5.heap.size vk vn vi vt vlo vhi from by rw[←hw6];exact⟨by simp,by simp[go_sem],by simp[go_sem],by simp[go_sem],by simp[go_sem],by simp[go_sem],by simp[go_sem]⟩)
   clear hw6
   have h5z:=HO5.out.size
   have hq5:q<w5.heap.size:=HM5.out.box.1
   have HM6:=hide (HM5.out.on hb56)
   have hO6:=HO5.out.bel hb56
   have HO6:=hide hO6
   have HC6:=hide (HC4.out.block hO6.size (hO6.block (w.heap.size+1+1) ⟨by omega,fun e=>by have:=HV2.out _ e;omega⟩ (by omega)))
   have HZ6:=hide (HZ4.out.block hO6.size (hO6.block (w.heap.size+1+1+1) ⟨by omega,fun e=>by have:=HV2.out _ e;omega⟩ (by omega)))
   have hbw6:=hO6.toBel hbwr (fun x hx=>⟨by omega,fun e=>by have:=HV2.out _ e;omega⟩)
   clear HM5 HC4 HZ4 HB4 HMK HO5 hO6
   generalize w5.heap.size=b8 at HB8 hq5 ⊢
   obtain⟨hlq,hfq,kq_0,kq_1,kq_2,kq_3,kq_4,kq_5,kq_6,kq_7,kq_8,kq_9,kq_10,kq_11,kq_12⟩:=HM6.out.box
   obtain⟨hlv,y0,y1,y2,y3,y4,y5⟩:=HB8.out
   obtain⟨hlc,hfc,kc_0,kc_1,kc_2,kc_3,kc_4,kc_5,kc_6,kc_7,kc_8,kc_9,kc_10,kc_11,kc_12⟩:=HC6.out
   obtain⟨cz0,cz1,cz2,cz3,cz4,cz5,cz6,cz7⟩:=HZ6.out
   go_region
   refine ex_named (Q:=Exit.then _ _) fun w7 hw7=>?_
   obtain⟨S7,⟨m0,m1,m2,m3,m4,m5⟩,o7⟩:=put19 HC6.out HZ6.out (by omega) hw7
   clear hw7
   obtain⟨-,-,s0,s1,s2,s3,s4,s5,s6,s7,s8,s9,s10,s11,s12⟩:=S7
   have hE7:Ents w3.heap.size w7 [⟨9,1,.slice B0 x0.length d0,L0,x0.map (fun x=>[Dat.str x])⟩,⟨92,3,.slice B1 x1.length d1,L1,x1.map TRecordType.D⟩,⟨89,5,.slice By (copO x2 x12 k n).length dy,LL,(copO x2 x12 k n).map TObject.D⟩,⟨43,6,.slice B3 x3.length d3,L3,x3.map TValue.D⟩,⟨9,1,.slice B6 x6.length d6,L6,x6.map (fun x=>[Dat.str x])⟩,⟨9,1,.slice B7 x7.length d7,L7,x7.map (fun x=>[Dat.str x])⟩,⟨96,2,.slice B8 x8.length d8,L8,x8.map TActive.D⟩]:=HM6.out.ents.keep o7.size fun e he x hx=>by have h1:=HM6.out.ents.low e he x hx;exact o7.block x ⟨by omega,by omega⟩ ((HM6.out.ents.own e he).lt x hx)
   obtain⟨LF,hOF,hNF,hLF⟩:=ents_own hE7 HG.out.1 HG.out.2.1 HG.out.2.2.1 HG.out.2.2.2.1 (copM_ok (k:=k) HG.out.2.2.2.2)
   have hbw7:=o7.toBel hbw6 (fun x hx=>⟨by omega,by omega⟩)
   have HOF:=hide hOF
   have HLF:=hide (show ∀b,b∈LF→w.heap.size≤b from fun b hb=>by have:=hLF b hb;omega)
   have HNF:=hide hNF
   (try clear hOF)
   (try clear hLF)
   (try clear hNF)
   (try clear hlq)
   (try clear hfq)
   (try clear kq_0)
   (try clear kq_1)
   (try clear kq_2)
   (try clear kq_3)
   (try clear kq_4)
   (try clear kq_5)
   (try clear kq_6)
   (try clear kq_7)
   (try clear kq_8)
   (try clear kq_9)
   (try clear kq_10)
   (try clear kq_11)
   (try clear kq_12)
   (try clear hlv)
   (try clear y0)
   (try clear y1)
   (try clear y2)
   (try clear y3)
   (try clear y4)
   (try clear y5)
   (try clear hlc)
   (try clear hfc)
   (try clear kc_0)
   (try clear kc_1)
   (try clear kc_2)
   (try clear kc_3)
   (try clear kc_4)
   (try clear kc_5)
   (try clear kc_6)
   (try clear kc_7)
   (try clear kc_8)
   (try clear kc_9)
   (try clear kc_10)
   (try clear kc_11)
   (try clear kc_12)
   (try clear cz0)
   (try clear cz1)
   (try clear cz2)
   (try clear cz3)
   (try clear cz4)
   (try clear cz5)
   (try clear cz6)
   (try clear cz7)
   go_wp2_with (fail)
   exact bodyPost_ret (v:=.tuple #[.agg #[.slice B0 x0.length d0,.slice B1 x1.length d1,.slice By (copO x2 x12 k n).length dy,.slice B3 x3.length d3,.string x4,.int .i64 x5,.slice B6 x6.length d6,.slice B7 x7.length d7,.slice B8 x8.length d8,.bool x9,.int .i64 x10,.int .i64 x11,.int .i64 (copM x12 k)],.agg #[.int .i64 vk,.int .i64 vn,.int .i64 vi,.string vt,.int .i64 vlo,.int .i64 vhi],.bool true]) (by simp[results,Tryz.results9,go_sem,s0,s1,s2,s3,s4,s5,s6,s7,s8,s9,s10,s11,s12,m0,m1,m2,m3,m4,m5];try rfl) rfl ⟨_,LF,by rw[HO.out];unfold copW;rw[if_pos HO.out,copV_eq,HVV.out];rfl,by unfold copT;rw[if_pos HO.out,copS_eq];exact HOF.out,HNF.out,HLF.out,hbw7⟩
end Go.Proofs.YtppmgodahloogaaGreatDoor
