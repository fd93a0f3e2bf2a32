/- A store's dump: the reference. -/
import Derived.Test.YtehcjlkgfgpjnaaGreatDoorPr
import Derived.Test.YtehcjlkgfgpjnaaGreatDoorPUa
import Derived.Test.YtehcjlkgfgpjnaaGreatDoorPNb
namespace Go.Proofs.YtehcjlkgfgpjnaaGreatDoor
set_option linter.unusedVariables false
set_option linter.unusedSimpArgs false
set_option maxRecDepth 100000
open Go.RowKit
theorem line_take {s:TStore} {l:List TActive} {i:Nat} (h:i<l.length):((l.take (i+1)).map (lineT s)).map (fun x=>[Dat.str x])=((l.take i).map (lineT s)).map (fun x=>[Dat.str x])++[[Dat.str (lineT s l[i])]]:=by
 rw[List.take_succ_eq_append_getElem h,List.map_append,List.map_append]
 rfl
theorem act_of {s:TStore} (hval:validB s=true) {m:Nat} (hm:m<s.actives.length):∃r f:Nat,s.actives[m]=.mk r f∧r<s.names.length∧∃hf:f<s.objects.length,s.objects[f].kind=1:=by
 cases hb:actB s s.actives[m]
 ·
  rw[val_act m hm hb]at hval;cases hval
 ·
  obtain⟨a,b,e⟩:∃a b,s.actives[m]=.mk a b:=by cases s.actives[m];exact⟨_,_,rfl⟩
  rw[e]at hb ⊢
  unfold actB at hb
  simp only[Bool.and_eq_true]at hb
  obtain⟨⟨ha,hb⟩,h5⟩:=hb
  obtain⟨h1,h2⟩:0≤a∧a<(s.names.length:Int):=of_decide_eq_true ha
  obtain⟨h3,h4⟩:0≤b∧b<(s.objects.length:Int):=of_decide_eq_true hb
  replace h5:(match s.objects[b.toNat]? with | some o=>decide (o.kind=1) | none=>false)=true:=h5
  obtain⟨r,rfl⟩:=Int.eq_ofNat_of_zero_le h1
  obtain⟨f,rfl⟩:=Int.eq_ofNat_of_zero_le h3
  refine⟨r,f,rfl,by omega,by omega,?_⟩
  rw[Int.toNat_natCast,List.getElem?_eq_getElem (by omega)]at h5
  simpa using h5
theorem act40 {s:TStore} (hval:validB s=true):s.actives.length≤40:=by
 cases hb:headB s
 ·
  rw[val_head hb]at hval;cases hval
 ·
  unfold headB at hb
  simp only[Bool.and_eq_true]at hb
  exact of_decide_eq_true hb.1.1.1.1.2
theorem items_24 {s:TStore} (hval:validB s=true) {m:Nat} (hm:m<s.objects.length) (hk:s.objects[m].kind=1):s.objects[m].items.length≤24:=by
 have ho:=val_obj_of hval m hm
 obtain⟨kd,tag,ser,its,keys,e⟩:∃kd tag ser its keys,s.objects[m]=.mk kd tag ser its keys:=by cases s.objects[m];exact⟨_,_,_,_,_,rfl⟩
 rw[e]at hk ho ⊢
 obtain rfl:kd=1:=hk
 rw[objB_1]at ho
 simp only[Bool.and_eq_true,decide_eq_true_eq]at ho
 exact ho.2.1.2
theorem imgs_le {w:World} {S:Nat→Prop} {q:Nat} {s:TStore} (hst:StoreAt w S q s) (hval:validB s=true) {l:List TValue} {A:Option Addr} {c:Nat} (hR:Row w S 6 A c (l.map TValue.D)) (hall:allB s l=true) (hl:l.length≤40):(imgsT s l).size≤50000:=by
 have h1:=joinC_size ⟨#[44,32]⟩ (l.map fun x=>imgV s x.v)
 have h2:sumS (l.map fun x=>imgV s x.v)≤1000*(l.map fun x=>imgV s x.v).length:=sumS_le (fun x hx=>by
  obtain⟨y,hy,rfl⟩:=List.mem_map.1 hx
  obtain⟨j,hj,rfl⟩:=List.getElem_of_mem hy
  have hva:=allB_at hall hj
  have hvv:=val_okU hR hj
  rw[vAt_get hj]at hva
  exact img_le hst hval hvv hva.2 hva.1)
 have e:((⟨#[44,32]⟩:ByteArray)).size=2:=rfl
 rw[e,List.length_map]at h1
 rw[List.length_map]at h2
 unfold imgsT
 omega
abbrev DumC (f:FuncId):Prop:=∀(s:TStore) (S:Nat→Prop) (q:Nat) (w:World),validB s=true→StoreAt w S q s→P10 w→Sp w →
 Calls Tryz.prog f #[.pointer (some ⟨q,0,none⟩)] w fun e w'=>∃(A:Option Addr) (c:Nat) (L:List Nat),e=.returned (.slice A (s.actives.map (lineT s)).length c)∧OwnRow w' L 1 A c ((s.actives.map (lineT s)).map (fun x=>[Dat.str x]))∧L.Nodup∧(∀b,b∈L→w.heap.size≤b)∧Bel w w'
set_option maxHeartbeats 4000000 in
theorem specDump_any:DumC 25:=by
 intro s S q w hval hs h10 hsp
 have HS:=hide hs
 have H10:=hide h10
 have HSP:=hide hsp
 have HVAL:=hide hval
 obtain⟨x0,x1,x2,x3,x4,x5,x6,x7,x8,x9,x10,x11,x12⟩:=s
 obtain⟨A0,c0,A1,c1,A2,c2,A3,c3,A6,c6,A7,c7,A8,c8,hq,e0,e1,e2,e3,e4,e5,e6,e7,e8,e9,e10,e11,e12,g0,g1,g2,g3,g4,g5,g6,g7,g8,g10,g11,g12⟩:=StoreAt.cells hs
 have HR0:=hide g0
 have hlc0:=g0.1
 have hcm0:=g0.2.1
 simp only[List.length_map]at hlc0
 unfold maxLen at hcm0
 have HR2:=hide g2
 have hlc2:=g2.1
 have hcm2:=g2.2.1
 simp only[List.length_map]at hlc2
 unfold maxLen at hcm2
 have HR8:=hide g8
 have hlc8:=g8.1
 have hcm8:=g8.2.1
 simp only[List.length_map]at hlc8
 unfold maxLen at hcm8
 have h40:x8.length≤40:=act40 hval
 clear hs h10 hsp hval e1 e3 e4 e5 e6 e7 e9 e10 e11 e12 g0 g1 g2 g3 g4 g5 g6 g7 g8 g10 g11 g12
 have HE0:=hide e0
 have HE2:=hide e2
 obtain⟨is,his,zs0,zs1,zs2⟩:=info_parts infoStrU
 simp only[TStore.actives_mk]
 go_enter Tryz.func25,Tryz.ntmps25
 go_wp2_with (fail)
 go_loopw [3,4] (fun lv iv wr=>∃(i:Nat) (v:Value),v=lv∧iv=.int .i64 i∧i≤x8.length∧Hid (OwnD wr 9 1 v [] (((x8.take i).map (lineT (TStore.mk x0 x1 x2 x3 x4 x5 x6 x7 x8 x9 x10 x11 x12))).map (fun x=>[Dat.str x])))∧Hid (∀b,Blk v [] b→w.heap.size≤b)∧Hid (Bel w wr)) (fun _ iv _=>x8.length - (intOf iv).toNat)
 case atStart=>exact⟨0,_,rfl,rfl,Nat.zero_le _,hide (OwnD.lit0 _ _ _),hide (fun b hb=>by rcases hb with hb | hb;(have e:=Option.some.inj (show some w.heap.size=some b from hb);omega);cases hb),hide bl⟩
 case round =>
  obtain⟨i,v,rfl,rfl,hi,HO,HBL,HBR⟩:=hrel
  have hbw:=HBR.out
  have hqr:=Nat.lt_of_lt_of_le hq hbw.size
  have k8:=(hbw.box q hq 8).trans e8
  by_cases h:i<x8.length
  ·
   skip
   have hdc:decide ((i:Int)<(x8.length:Int))=true:=by simp;omega
   have hi0:(0:Int)≤(i:Int):=by omega
   have hi1:(i:Int)<(x8.length:Int):=by omega
   obtain⟨r,fm,hact,hr,hfm,hkd⟩:=act_of HVAL.out h
   simp only[TStore.actives_mk,TStore.names_mk,TStore.objects_mk]at hact hr hfm hkd
   (obtain⟨b1,o1,x1_0,x1_1,hA1,hS1,hl1,hx1,hv1,g1_0,g1_1,c1_0,c1_1⟩:=TActive.at HR8.out i h;subst hA1;have HV1:=hide (Dat.HoldVals.bel hbw hv1);have hh1:=hbw.box b1 hl1;have hw1:=Nat.lt_of_lt_of_le hl1 (Bel.size hbw);replace c1_0:=(hh1 _).trans c1_0;replace c1_1:=(hh1 _).trans c1_1;have HX1:=hide hx1;clear hh1 hv1 hx1 hS1)
   have hx1:=HX1.out
   rw[hact]at hx1
   injection hx1 with hx1a hx1b
   subst hx1a hx1b
   go_upto_region 6 with (fail)
   refine wp_named2 fun wA hwA=>?_
   have hbA:Bel wr wA:=by rw[←hwA];exact bl
   have y0:wA.cell? ⟨wr.heap.size,0,none⟩=some (.int .i64 r):=by rw[←hwA];simp[go_sem]
   have y1:wA.cell? ⟨wr.heap.size,1,none⟩=some (.int .i64 fm):=by rw[←hwA];simp[go_sem]
   have hzA:wr.heap.size<wA.heap.size:=by rw[←hwA];simp
   clear hwA
   have hwA:=Bel.trans hbw hbA
   obtain⟨bN,oN,rfl,hbN,hcN⟩:=strs_cells HR0.out (by omega)
   have knm:=(hwA.box bN hbN _).trans (hcN r hr)
   clear hcN
   obtain⟨nm,hnm⟩:∃nm,x0[r]=nm:=⟨_,rfl⟩
   rw[hnm]at knm
   have hnz:nm.size≤12:=by rw[←hnm];exact name_of HVAL.out hr
   have HNM:=hide hnm
   clear hnm
   (obtain⟨b2,o2,x2_0,x2_1,x2_2,x2_3,x2_4,A2_3,C2_3,A2_4,C2_4,hA2,hS2,hl2,hx2,hv2,g2_0,g2_1,g2_2,g2_3,g2_4,c2_0,c2_1,c2_2,c2_3,c2_4⟩:=TObject.at HR2.out fm hfm;subst hA2;have HV2:=hide (Dat.HoldVals.bel hwA hv2);have hh2:=hwA.box b2 hl2;have hw2:=Nat.lt_of_lt_of_le hl2 (Bel.size hwA);replace c2_0:=(hh2 _).trans c2_0;replace c2_1:=(hh2 _).trans c2_1;replace c2_2:=(hh2 _).trans c2_2;replace c2_3:=(hh2 _).trans c2_3;replace c2_4:=(hh2 _).trans c2_4;have HX2:=hide hx2;have GR2_3:=hide g2_3;have GR2_4:=hide g2_4;clear hh2 hv2 hx2 hS2 g2_3 g2_4)
   have hall:allB (TStore.mk x0 x1 x2 x3 x4 x5 x6 x7 x8 x9 x10 x11 x12) x2_3=true:=by have h:=items_of HVAL.out hfm (Or.inl hkd);simp only[TStore.objects_mk]at h;rw[HX2.out]at h;exact h
   have h24:x2_3.length≤24:=by have h:=items_24 HVAL.out hfm hkd;simp only[TStore.objects_mk]at h;rw[HX2.out]at h;exact h
   have hjz:=imgs_le HS.out HVAL.out GR2_3.out hall (by omega)
   have HALL:=hide hall
   clear hall
   obtain⟨jt,hjt⟩:∃jt,imgsT (TStore.mk x0 x1 x2 x3 x4 x5 x6 x7 x8 x9 x10 x11 x12) x2_3=jt:=⟨_,rfl⟩
   rw[hjt]at hjz
   have HJT:=hide hjt
   have HLN:=hide (show lineT (TStore.mk x0 x1 x2 x3 x4 x5 x6 x7 x8 x9 x10 x11 x12) x8[i]=nm++({ data:=#[40] }:ByteArray)++jt++({ data:=#[41] }:ByteArray) by rw[hact];unfold lineT;show nameAt (TStore.mk x0 x1 x2 x3 x4 x5 x6 x7 x8 x9 x10 x11 x12) (r:Int)++_++imgsT (TStore.mk x0 x1 x2 x3 x4 x5 x6 x7 x8 x9 x10 x11 x12) (objAt (TStore.mk x0 x1 x2 x3 x4 x5 x6 x7 x8 x9 x10 x11 x12) (fm:Int)).items++_=_;rw[nameAt_get hr,objAt_get hfm,←HNM.out,←hjt];simp only[TStore.objects_mk,TStore.names_mk];rw[HX2.out];rfl)
   clear hjt
   have k0:=(hwA.box q hq 0).trans HE0.out
   have k2:=(hwA.box q hq 2).trans HE2.out
   have hqA:=Nat.lt_of_lt_of_le hq hwA.size
   have hbNA:=Nat.lt_of_lt_of_le hbN hwA.size
   have hr0:(0:Int)≤(r:Int):=by omega
   have hr1:(r:Int)<(x0.length:Int):=by omega
   have hm0:(0:Int)≤(fm:Int):=by omega
   have hm1:(fm:Int)<(x2.length:Int):=by omega
   have HOA:=hide (HO.out.bel hbA)
   have HK:=hide (show wA.cell? ⟨q,0,none⟩=some (.slice (some ⟨bN,oN,none⟩) x0.length c0)∧wA.cell? ⟨q,2,none⟩=some (.slice (some ⟨b2,o2,none⟩) x2.length c2)∧wA.cell? ⟨bN,oN+r,none⟩=some (.string nm)∧wA.cell? ⟨b2,o2+fm*5+3,none⟩=some (.slice A2_3 x2_3.length C2_3)∧wA.cell? ⟨wr.heap.size,0,none⟩=some (.int .i64 r)∧wA.cell? ⟨wr.heap.size,1,none⟩=some (.int .i64 fm)from⟨k0,k2,knm,c2_3,y0,y1⟩)
   clear k0 k2 knm c2_0 c2_1 c2_2 c2_3 c2_4 y0 y1 k8 c1_0 c1_1
   refine wp_region_factsW (m:=25) (p:=24) (fun j=>match j with  | _=>[]) (fun j vf wq=>match j with | 0=>((vf 0)=v) | 1=>((vf 1)=.pointer (some ⟨q,0,none⟩)) | 2=>((vf 2)=.pointer (some ⟨q,0,none⟩)) | 3=>((vf 3)=.pointer (some ⟨q,0,none⟩)) | 4=>((vf 4)=.slice (some ⟨bN,oN,none⟩) x0.length c0) | 5=>((vf 5)=.pointer (some ⟨wr.heap.size,0,none⟩)) | 6=>((vf 6)=.int .i64 r) | 7=>((vf 7)=.pointer (some ⟨bN,oN+r,none⟩)) | 8=>((vf 8)=.string nm) | 9=>((vf 9)=.string (nm++({ data:=#[40] }:ByteArray))) | 10=>((vf 10)=.pointer (some ⟨q,0,none⟩)) | 11=>((vf 11)=.pointer (some ⟨q,0,none⟩)) | 12=>((vf 12)=.pointer (some ⟨q,0,none⟩)) | 13=>((vf 13)=.pointer (some ⟨q,2,none⟩)) | 14=>((vf 14)=.slice (some ⟨b2,o2,none⟩) x2.length c2) | 15=>((vf 15)=.pointer (some ⟨wr.heap.size,1,none⟩)) | 16=>((vf 16)=.int .i64 fm) | 17=>((vf 17)=.pointer (some ⟨b2,o2+fm*5,none⟩)) | 18=>((vf 18)=.pointer (some ⟨b2,o2+fm*5+3,none⟩)) | 19=>((vf 19)=.slice A2_3 x2_3.length C2_3) | 20=>((vf 20)=.string jt) | 21=>((vf 21)=.string (nm++({ data:=#[40] }:ByteArray)++jt)) | 22=>((vf 22)=.string (nm++({ data:=#[40] }:ByteArray)++jt++({ data:=#[41] }:ByteArray))) | 23=>(∃g:Nat,(vf 23)=.slice (some ⟨g,0,none⟩) 1 1∧wA.heap.size≤g∧wq.heap[g]?=some (.cells #[.string (nm++({ data:=#[40] }:ByteArray)++jt++({ data:=#[41] }:ByteArray))] 9)) | 24=>(OwnD wq 9 1 (vf 24) [] (((x8.take (i+1)).map (lineT (TStore.mk x0 x1 x2 x3 x4 x5 x6 x7 x8 x9 x10 x11 x12))).map (fun x=>[Dat.str x]))∧∀b,Blk (vf 24) [] b→w.heap.size≤b) | _=>True) (fun wa wb=>Bel wa wb) (fun wa wb=>KpN wA.heap.size wa wb) (fun wq=>Bel wA wq) (fun wq=>∃wm:World,Bel wA wm∧wm.grownBy wq v.ownBlock) (v) [(0,some 23),(1,some 24),(2,some 25),(3,some 26),(4,some 27),(5,some 28),(6,some 29),(7,some 30),(8,some 31),(9,some 32),(10,some 33),(11,some 34),(12,some 35),(13,some 36),(14,some 37),(15,some 38),(16,some 39),(17,some 40),(18,some 41),(19,some 42),(20,some 43),(21,some 44),(22,some 45),(23,some 46),(24,some 47),(25,some 3)] rfl (by kernel_rfl) (by kernel_rfl) (by kernel_rfl) (by decide) (by rfl) ?hG ?hR ?hR2 ?hG0 ?hG1 rfl rfl ?hstep ?hp ?hlast
   case hG=>exact bl
   case hG0=>exact fun wa wb hk hg=>hg.trans hk
   case hG1=>exact fun wa wb hk hg=>by obtain⟨wm,h3,h4⟩:=hg;exact⟨wm,h3,grown_bel h4 hk⟩
   case hR =>
    exact rk130
   case hR2 =>
    exact rk132
   case hstep =>
    simp only[putP,Act.put,List.setIfInBounds_toArray,List.set_cons_zero,List.set_cons_succ,List.getElem_toArray,List.getElem_cons_zero,List.getElem_cons_succ]
    refine (stepsW_cons (i:=0) (i2:=1) (o:=_) rfl ?s0 (stepsW_cons (i:=1) (i2:=2) (o:=_) rfl ?s1 (stepsW_cons (i:=2) (i2:=3) (o:=_) rfl ?s2 (stepsW_cons (i:=3) (i2:=4) (o:=_) rfl ?s3 (stepsW_cons (i:=4) (i2:=5) (o:=_) rfl ?s4 (stepsW_cons (i:=5) (i2:=6) (o:=_) rfl ?s5 (stepsW_cons (i:=6) (i2:=7) (o:=_) rfl ?s6 (stepsW_cons (i:=7) (i2:=8) (o:=_) rfl ?s7 (stepsW_cons (i:=8) (i2:=9) (o:=_) rfl ?s8 (stepsW_cons (i:=9) (i2:=10) (o:=_) rfl ?s9 (stepsW_cons (i:=10) (i2:=11) (o:=_) rfl ?s10 (stepsW_cons (i:=11) (i2:=12) (o:=_) rfl ?s11 (stepsW_cons (i:=12) (i2:=13) (o:=_) rfl ?s12 (stepsW_cons (i:=13) (i2:=14) (o:=_) rfl ?s13 (stepsW_cons (i:=14) (i2:=15) (o:=_) rfl ?s14 (stepsW_cons (i:=15) (i2:=16) (o:=_) rfl ?s15 (stepsW_cons (i:=16) (i2:=17) (o:=_) rfl ?s16 (stepsW_cons (i:=17) (i2:=18) (o:=_) rfl ?s17 (stepsW_cons (i:=18) (i2:=19) (o:=_) rfl ?s18 (stepsW_cons (i:=19) (i2:=20) (o:=_) rfl ?s19 (stepsW_cons (i:=20) (i2:=21) (o:=_) rfl ?s20 (stepsW_cons (i:=21) (i2:=22) (o:=_) rfl ?s21 (stepsW_cons (i:=22) (i2:=23) (o:=_) rfl ?s22 (stepsW_cons (i:=23) (i2:=24) (o:=_) rfl ?s23 (stepsW_skip (p:=24) (p2:=25) (stepsW_nil (by decide)))))))))))))))))))))))))))
    case s0 =>
     exact rk82
    case s1 =>
     exact rk82
    case s5 =>
     exact rk82
    case s10 =>
     exact rk82
    case s11 =>
     exact rk82
    case s15 =>
     exact rk82
    case s2 =>
     exact rk182
    case s3 =>
     exact rk183
    case s12 =>
     exact rk179
    case s13 =>
     exact rk180
    case s18 =>
     exact rk176
    case s4 =>
     exact rk168
    case s6 =>
     exact rk155
    case s8 =>
     exact rk162
    case s14 =>
     exact rk163
    case s16 =>
     exact rk154
    case s19 =>
     exact rk156
    case s7 =>
     exact rk164
    case s17 =>
     exact rk161
    case s9 =>
     exact rk153
    case s20 =>
     intro u wa hum hG hf K hK
     have g0:=g0_of hG (by kernel_rfl)
     have e10:(u 10)=.pointer (some ⟨q,0,none⟩):=fact_ofU hf 10 (by kernel_rfl)
     have e19:(u 19)=.slice A2_3 x2_3.length C2_3:=fact_ofU hf 19 (by kernel_rfl)
     clear hf
     clear hG
     simp only[Act.put,List.setIfInBounds_toArray,List.set_cons_zero,List.set_cons_succ,List.getElem_toArray,List.getElem_cons_zero,List.getElem_cons_succ]at hK ⊢
     rw[hum]at hK ⊢
     clear hum
     rw[e10]at hK ⊢
     rw[e19]at hK ⊢
     have hwx:=Bel.trans hwA g0
     go_simp
     go_at_call 56
     refine (specIms_any (TStore.mk x0 x1 x2 x3 x4 x5 x6 x7 x8 x9 x10 x11 x12) x2_3 S q _ A2_3 C2_3 HVAL.out HALL.out (by omega) (StoreAt.bel hwx HS.out) (Row.bel hwx GR2_3.out) (H10.out.on hwx) (HSP.out.on hwx)).mono ?_
     rintro e w5 ⟨rfl,hb5⟩
     rw[HJT.out]
     exact hK.out _ _ hb5 rfl
    case s21 =>
     exact rk134
    case s22 =>
     exact rk129
    case s23 =>
     exact rk131
   case hp =>
    simp only[putP,Act.put,List.setIfInBounds_toArray,List.set_cons_zero,List.set_cons_succ,List.getElem_toArray,List.getElem_cons_zero,List.getElem_cons_succ]
    intro u wa hum hG hf K hK
    rw[hum]at hK ⊢
    clear hum
    have e0:(u 0)=v:=fact_ofU hf 0 (by kernel_rfl)
    have e23:∃g:Nat,(u 23)=.slice (some ⟨g,0,none⟩) 1 1∧wA.heap.size≤g∧wa.heap[g]?=some (.cells #[.string (nm++({ data:=#[40] }:ByteArray)++jt++({ data:=#[41] }:ByteArray))] 9):=fact_ofU hf 23 (by kernel_rfl)
    clear hf
    rw[e0]at hK ⊢
    obtain⟨g,e23,hg1,hg2⟩:=e23
    rw[e23]at hK ⊢
    have hold:=HOA.out.bel hG
    have hlv:=HOA.out.lt
    have hz9:=Bel.size hG
    have hzw:=hwA.size
    have hlz:(nm++({ data:=#[40] }:ByteArray)++jt++({ data:=#[41] }:ByteArray)).size≤maxLen:=by have h1:=add_le (add_le (add_le hnz (show ({ data:=#[40] }:ByteArray).size≤1 from Nat.le_refl 1)) hjz) (show ({ data:=#[41] }:ByteArray).size≤1 from Nat.le_refl 1);unfold maxLen;omega
    have hsr:Src wa 1 (some ⟨g,0,none⟩) 1 [] [[Dat.str (nm++({ data:=#[40] }:ByteArray)++jt++({ data:=#[41] }:ByteArray))]] [.string (nm++({ data:=#[40] }:ByteArray)++jt++({ data:=#[41] }:ByteArray))]:=⟨rfl,(fun h=>(by cases h)),⟨[],[],[.string (nm++({ data:=#[40] }:ByteArray)++jt++({ data:=#[41] }:ByteArray))],[],by simp,by simp,rfl,str_ownU wa hlz,rfl,rfl⟩,List.nodup_nil,fun ad hA j u hu=>by obtain rfl:=Option.some.inj hA;rw[addr_add];unfold World.cell?;simp only[hg2];simpa using hu⟩
    refine wp_append_D (.tmp 23) (.tmp 46) 22 rfl 9 is (.string ByteArray.empty) 1 16 Tryz.underlying22 his zs0 zs1 zs2 (by decide) (by decide) hold hsr 1 rfl rfl (fun b hb hm=>by cases hm) (by simp only[List.length_map,List.length_take];omega) (by simp only[List.length_map,List.length_take];unfold maxLen;omega) (fun v9 w9 hO9 hg9 hw9=>?_)
    (try simp only[Act.put,List.setIfInBounds_toArray,List.set_cons_zero,List.set_cons_succ,List.getElem_toArray,List.getElem_cons_zero,List.getElem_cons_succ])
    exact hK.out _ _ ⟨hg9.size,fun k hk hl=>hg9.block k hl (fun e=>by have:=hlv k (Or.inl e.symm);omega)⟩ ⟨wa,hG,hg9⟩ ⟨(show OwnD w9 9 1 v9 [] (((x8.take (i+1)).map (lineT (TStore.mk x0 x1 x2 x3 x4 x5 x6 x7 x8 x9 x10 x11 x12))).map (fun x=>[Dat.str x]))from by rw[line_take h,HLN.out];simpa using hO9),fun b hb=>hb.elim (fun q=>(hw9 b q).elim (fun q=>HBL.out b (Or.inl q)) (fun q=>by omega)) (fun q=>by cases q)⟩
   case hlast =>
    exact rk43
  ·
   skip
   exact rk151
end Go.Proofs.YtehcjlkgfgpjnaaGreatDoor
namespace Go.Proofs.YtehcjlkgfgpjnaaGreatDoor
set_option linter.unusedVariables false
set_option linter.unusedSimpArgs false
set_option maxRecDepth 100000
open Go.RowKit
set_option maxHeartbeats 4000000 in
theorem implDump_any:DumC 32:=by
 intro s S q w hval hs h10 hsp
 have HS:=hide hs
 have H10:=hide h10
 have HSP:=hide hsp
 have HVAL:=hide hval
 obtain⟨x0,x1,x2,x3,x4,x5,x6,x7,x8,x9,x10,x11,x12⟩:=s
 obtain⟨A0,c0,A1,c1,A2,c2,A3,c3,A6,c6,A7,c7,A8,c8,hq,e0,e1,e2,e3,e4,e5,e6,e7,e8,e9,e10,e11,e12,g0,g1,g2,g3,g4,g5,g6,g7,g8,g10,g11,g12⟩:=StoreAt.cells hs
 have HR0:=hide g0
 have hlc0:=g0.1
 have hcm0:=g0.2.1
 simp only[List.length_map]at hlc0
 unfold maxLen at hcm0
 have HR2:=hide g2
 have hlc2:=g2.1
 have hcm2:=g2.2.1
 simp only[List.length_map]at hlc2
 unfold maxLen at hcm2
 have HR8:=hide g8
 have hlc8:=g8.1
 have hcm8:=g8.2.1
 simp only[List.length_map]at hlc8
 unfold maxLen at hcm8
 have h40:x8.length≤40:=act40 hval
 clear hs h10 hsp hval e1 e3 e4 e5 e6 e7 e9 e10 e11 e12 g0 g1 g2 g3 g4 g5 g6 g7 g8 g10 g11 g12
 have HE0:=hide e0
 have HE2:=hide e2
 obtain⟨is,his,zs0,zs1,zs2⟩:=info_parts infoStrU
 simp only[TStore.actives_mk]
 go_enter Tryz.func32,Tryz.ntmps32
 go_wp2_with (fail)
 go_loopw [3,12] (fun lv iv wr=>∃(i:Nat) (v:Value),v=lv∧iv=.int .i64 i∧i≤x8.length∧Hid (OwnD wr 9 1 v [] (((x8.take i).map (lineT (TStore.mk x0 x1 x2 x3 x4 x5 x6 x7 x8 x9 x10 x11 x12))).map (fun x=>[Dat.str x])))∧Hid (∀b,Blk v [] b→w.heap.size≤b)∧Hid (Bel w wr)) (fun _ iv _=>x8.length - (intOf iv).toNat)
 case atStart=>exact⟨0,_,rfl,rfl,Nat.zero_le _,hide (OwnD.lit0 _ _ _),hide (fun b hb=>by rcases hb with hb | hb;(have e:=Option.some.inj (show some w.heap.size=some b from hb);omega);cases hb),hide bl⟩
 case round =>
  obtain⟨i,v,rfl,rfl,hi,HO,HBL,HBR⟩:=hrel
  have hbw:=HBR.out
  have hqr:=Nat.lt_of_lt_of_le hq hbw.size
  have k8:=(hbw.box q hq 8).trans e8
  by_cases h:i<x8.length
  ·
   skip
   have hdc:decide ((i:Int)<(x8.length:Int))=true:=by simp;omega
   have hi0:(0:Int)≤(i:Int):=by omega
   have hi1:(i:Int)<(x8.length:Int):=by omega
   obtain⟨r,fm,hact,hr,hfm,hkd⟩:=act_of HVAL.out h
   simp only[TStore.actives_mk,TStore.names_mk,TStore.objects_mk]at hact hr hfm hkd
   (obtain⟨b1,o1,x1_0,x1_1,hA1,hS1,hl1,hx1,hv1,g1_0,g1_1,c1_0,c1_1⟩:=TActive.at HR8.out i h;subst hA1;have HV1:=hide (Dat.HoldVals.bel hbw hv1);have hh1:=hbw.box b1 hl1;have hw1:=Nat.lt_of_lt_of_le hl1 (Bel.size hbw);replace c1_0:=(hh1 _).trans c1_0;replace c1_1:=(hh1 _).trans c1_1;have HX1:=hide hx1;clear hh1 hv1 hx1 hS1)
   have hx1:=HX1.out
   rw[hact]at hx1
   injection hx1 with hx1a hx1b
   subst hx1a hx1b
   go_upto_region 5 with (fail)
   refine wp_named2 fun wA hwA=>?_
   have hbA:Bel wr wA:=by rw[←hwA];exact bl
   have y0:wA.cell? ⟨wr.heap.size,0,none⟩=some (.int .i64 r):=by rw[←hwA];simp[go_sem]
   have y1:wA.cell? ⟨wr.heap.size,1,none⟩=some (.int .i64 fm):=by rw[←hwA];simp[go_sem]
   have hzA:wr.heap.size<wA.heap.size:=by rw[←hwA];simp
   clear hwA
   have hwA:=Bel.trans hbw hbA
   obtain⟨bN,oN,rfl,hbN,hcN⟩:=strs_cells HR0.out (by omega)
   have knm:=(hwA.box bN hbN _).trans (hcN r hr)
   clear hcN
   obtain⟨nm,hnm⟩:∃nm,x0[r]=nm:=⟨_,rfl⟩
   rw[hnm]at knm
   have hnz:nm.size≤12:=by rw[←hnm];exact name_of HVAL.out hr
   have HNM:=hide hnm
   clear hnm
   (obtain⟨b2,o2,x2_0,x2_1,x2_2,x2_3,x2_4,A2_3,C2_3,A2_4,C2_4,hA2,hS2,hl2,hx2,hv2,g2_0,g2_1,g2_2,g2_3,g2_4,c2_0,c2_1,c2_2,c2_3,c2_4⟩:=TObject.at HR2.out fm hfm;subst hA2;have HV2:=hide (Dat.HoldVals.bel hwA hv2);have hh2:=hwA.box b2 hl2;have hw2:=Nat.lt_of_lt_of_le hl2 (Bel.size hwA);replace c2_0:=(hh2 _).trans c2_0;replace c2_1:=(hh2 _).trans c2_1;replace c2_2:=(hh2 _).trans c2_2;replace c2_3:=(hh2 _).trans c2_3;replace c2_4:=(hh2 _).trans c2_4;have HX2:=hide hx2;have GR2_3:=hide g2_3;have GR2_4:=hide g2_4;clear hh2 hv2 hx2 hS2 g2_3 g2_4)
   have hall:allB (TStore.mk x0 x1 x2 x3 x4 x5 x6 x7 x8 x9 x10 x11 x12) x2_3=true:=by have h:=items_of HVAL.out hfm (Or.inl hkd);simp only[TStore.objects_mk]at h;rw[HX2.out]at h;exact h
   have h24:x2_3.length≤24:=by have h:=items_24 HVAL.out hfm hkd;simp only[TStore.objects_mk]at h;rw[HX2.out]at h;exact h
   have hjz:=imgs_le HS.out HVAL.out GR2_3.out hall (by omega)
   have HALL:=hide hall
   clear hall
   obtain⟨jt,hjt⟩:∃jt,imgsT (TStore.mk x0 x1 x2 x3 x4 x5 x6 x7 x8 x9 x10 x11 x12) x2_3=jt:=⟨_,rfl⟩
   rw[hjt]at hjz
   have HJT:=hide hjt
   have HLN:=hide (show lineT (TStore.mk x0 x1 x2 x3 x4 x5 x6 x7 x8 x9 x10 x11 x12) x8[i]=nm++({ data:=#[40] }:ByteArray)++jt++({ data:=#[41] }:ByteArray) by rw[hact];unfold lineT;show nameAt (TStore.mk x0 x1 x2 x3 x4 x5 x6 x7 x8 x9 x10 x11 x12) (r:Int)++_++imgsT (TStore.mk x0 x1 x2 x3 x4 x5 x6 x7 x8 x9 x10 x11 x12) (objAt (TStore.mk x0 x1 x2 x3 x4 x5 x6 x7 x8 x9 x10 x11 x12) (fm:Int)).items++_=_;rw[nameAt_get hr,objAt_get hfm,←HNM.out,←hjt];simp only[TStore.objects_mk,TStore.names_mk];rw[HX2.out];rfl)
   clear hjt
   have k0:=(hwA.box q hq 0).trans HE0.out
   have k2:=(hwA.box q hq 2).trans HE2.out
   have hqA:=Nat.lt_of_lt_of_le hq hwA.size
   have hbNA:=Nat.lt_of_lt_of_le hbN hwA.size
   have hr0:(0:Int)≤(r:Int):=by omega
   have hr1:(r:Int)<(x0.length:Int):=by omega
   have hm0:(0:Int)≤(fm:Int):=by omega
   have hm1:(fm:Int)<(x2.length:Int):=by omega
   have HOA:=hide (HO.out.bel hbA)
   have HK:=hide (show wA.cell? ⟨q,0,none⟩=some (.slice (some ⟨bN,oN,none⟩) x0.length c0)∧wA.cell? ⟨q,2,none⟩=some (.slice (some ⟨b2,o2,none⟩) x2.length c2)∧wA.cell? ⟨bN,oN+r,none⟩=some (.string nm)∧wA.cell? ⟨b2,o2+fm*5+3,none⟩=some (.slice A2_3 x2_3.length C2_3)∧wA.cell? ⟨wr.heap.size,0,none⟩=some (.int .i64 r)∧wA.cell? ⟨wr.heap.size,1,none⟩=some (.int .i64 fm)from⟨k0,k2,knm,c2_3,y0,y1⟩)
   clear k0 k2 knm c2_0 c2_1 c2_2 c2_3 c2_4 y0 y1 k8 c1_0 c1_1
   refine wp_region_factsW (m:=25) (p:=24) (fun j=>match j with  | _=>[]) (fun j vf wq=>match j with | 0=>((vf 0)=v) | 1=>((vf 1)=.pointer (some ⟨q,0,none⟩)) | 2=>((vf 2)=.pointer (some ⟨q,0,none⟩)) | 3=>((vf 3)=.pointer (some ⟨q,0,none⟩)) | 4=>((vf 4)=.slice (some ⟨bN,oN,none⟩) x0.length c0) | 5=>((vf 5)=.pointer (some ⟨wr.heap.size,0,none⟩)) | 6=>((vf 6)=.int .i64 r) | 7=>((vf 7)=.pointer (some ⟨bN,oN+r,none⟩)) | 8=>((vf 8)=.string nm) | 9=>((vf 9)=.string (nm++({ data:=#[40] }:ByteArray))) | 10=>((vf 10)=.pointer (some ⟨q,0,none⟩)) | 11=>((vf 11)=.pointer (some ⟨q,0,none⟩)) | 12=>((vf 12)=.pointer (some ⟨q,0,none⟩)) | 13=>((vf 13)=.pointer (some ⟨q,2,none⟩)) | 14=>((vf 14)=.slice (some ⟨b2,o2,none⟩) x2.length c2) | 15=>((vf 15)=.pointer (some ⟨wr.heap.size,1,none⟩)) | 16=>((vf 16)=.int .i64 fm) | 17=>((vf 17)=.pointer (some ⟨b2,o2+fm*5,none⟩)) | 18=>((vf 18)=.pointer (some ⟨b2,o2+fm*5+3,none⟩)) | 19=>((vf 19)=.slice A2_3 x2_3.length C2_3) | 20=>((vf 20)=.string jt) | 21=>((vf 21)=.string (nm++({ data:=#[40] }:ByteArray)++jt)) | 22=>((vf 22)=.string (nm++({ data:=#[40] }:ByteArray)++jt++({ data:=#[41] }:ByteArray))) | 23=>(∃g:Nat,(vf 23)=.slice (some ⟨g,0,none⟩) 1 1∧wA.heap.size≤g∧wq.heap[g]?=some (.cells #[.string (nm++({ data:=#[40] }:ByteArray)++jt++({ data:=#[41] }:ByteArray))] 9)) | 24=>(OwnD wq 9 1 (vf 24) [] (((x8.take (i+1)).map (lineT (TStore.mk x0 x1 x2 x3 x4 x5 x6 x7 x8 x9 x10 x11 x12))).map (fun x=>[Dat.str x]))∧∀b,Blk (vf 24) [] b→w.heap.size≤b) | _=>True) (fun wa wb=>Bel wa wb) (fun wa wb=>KpN wA.heap.size wa wb) (fun wq=>Bel wA wq) (fun wq=>∃wm:World,Bel wA wm∧wm.grownBy wq v.ownBlock) (v) [(0,some 16),(1,some 17),(2,some 18),(3,some 19),(4,some 20),(5,some 21),(6,some 22),(7,some 23),(8,some 24),(9,some 25),(10,some 26),(11,some 27),(12,some 28),(13,some 29),(14,some 30),(15,some 31),(16,some 32),(17,some 33),(18,some 34),(19,some 35),(20,some 36),(21,some 37),(22,some 38),(23,some 39),(24,some 40),(25,some 3)] rfl (by kernel_rfl) (by kernel_rfl) (by kernel_rfl) (by decide) (by rfl) ?hG ?hR ?hR2 ?hG0 ?hG1 rfl rfl ?hstep ?hp ?hlast
   case hG=>exact bl
   case hG0=>exact fun wa wb hk hg=>hg.trans hk
   case hG1=>exact fun wa wb hk hg=>by obtain⟨wm,h3,h4⟩:=hg;exact⟨wm,h3,grown_bel h4 hk⟩
   case hR =>
    exact rk130
   case hR2 =>
    exact rk132
   case hstep =>
    simp only[putP,Act.put,List.setIfInBounds_toArray,List.set_cons_zero,List.set_cons_succ,List.getElem_toArray,List.getElem_cons_zero,List.getElem_cons_succ]
    refine (stepsW_cons (i:=0) (i2:=1) (o:=_) rfl ?s0 (stepsW_cons (i:=1) (i2:=2) (o:=_) rfl ?s1 (stepsW_cons (i:=2) (i2:=3) (o:=_) rfl ?s2 (stepsW_cons (i:=3) (i2:=4) (o:=_) rfl ?s3 (stepsW_cons (i:=4) (i2:=5) (o:=_) rfl ?s4 (stepsW_cons (i:=5) (i2:=6) (o:=_) rfl ?s5 (stepsW_cons (i:=6) (i2:=7) (o:=_) rfl ?s6 (stepsW_cons (i:=7) (i2:=8) (o:=_) rfl ?s7 (stepsW_cons (i:=8) (i2:=9) (o:=_) rfl ?s8 (stepsW_cons (i:=9) (i2:=10) (o:=_) rfl ?s9 (stepsW_cons (i:=10) (i2:=11) (o:=_) rfl ?s10 (stepsW_cons (i:=11) (i2:=12) (o:=_) rfl ?s11 (stepsW_cons (i:=12) (i2:=13) (o:=_) rfl ?s12 (stepsW_cons (i:=13) (i2:=14) (o:=_) rfl ?s13 (stepsW_cons (i:=14) (i2:=15) (o:=_) rfl ?s14 (stepsW_cons (i:=15) (i2:=16) (o:=_) rfl ?s15 (stepsW_cons (i:=16) (i2:=17) (o:=_) rfl ?s16 (stepsW_cons (i:=17) (i2:=18) (o:=_) rfl ?s17 (stepsW_cons (i:=18) (i2:=19) (o:=_) rfl ?s18 (stepsW_cons (i:=19) (i2:=20) (o:=_) rfl ?s19 (stepsW_cons (i:=20) (i2:=21) (o:=_) rfl ?s20 (stepsW_cons (i:=21) (i2:=22) (o:=_) rfl ?s21 (stepsW_cons (i:=22) (i2:=23) (o:=_) rfl ?s22 (stepsW_cons (i:=23) (i2:=24) (o:=_) rfl ?s23 (stepsW_skip (p:=24) (p2:=25) (stepsW_nil (by decide)))))))))))))))))))))))))))
    case s0 =>
     exact rk82
    case s1 =>
     exact rk82
    case s5 =>
     exact rk82
    case s10 =>
     exact rk82
    case s11 =>
     exact rk82
    case s15 =>
     exact rk82
    case s2 =>
     exact rk182
    case s3 =>
     exact rk183
    case s12 =>
     exact rk179
    case s13 =>
     exact rk180
    case s18 =>
     exact rk176
    case s4 =>
     exact rk168
    case s6 =>
     exact rk155
    case s8 =>
     exact rk162
    case s14 =>
     exact rk163
    case s16 =>
     exact rk154
    case s19 =>
     exact rk156
    case s7 =>
     exact rk164
    case s17 =>
     exact rk161
    case s9 =>
     exact rk153
    case s20 =>
     intro u wa hum hG hf K hK
     have g0:=g0_of hG (by kernel_rfl)
     have e10:(u 10)=.pointer (some ⟨q,0,none⟩):=fact_ofU hf 10 (by kernel_rfl)
     have e19:(u 19)=.slice A2_3 x2_3.length C2_3:=fact_ofU hf 19 (by kernel_rfl)
     clear hf
     clear hG
     simp only[Act.put,List.setIfInBounds_toArray,List.set_cons_zero,List.set_cons_succ,List.getElem_toArray,List.getElem_cons_zero,List.getElem_cons_succ]at hK ⊢
     rw[hum]at hK ⊢
     clear hum
     rw[e10]at hK ⊢
     rw[e19]at hK ⊢
     have hwx:=Bel.trans hwA g0
     go_simp
     go_at_call 66
     refine (implIms_any (TStore.mk x0 x1 x2 x3 x4 x5 x6 x7 x8 x9 x10 x11 x12) x2_3 S q _ A2_3 C2_3 HVAL.out HALL.out (by omega) (StoreAt.bel hwx HS.out) (Row.bel hwx GR2_3.out) (H10.out.on hwx) (HSP.out.on hwx)).mono ?_
     rintro e w5 ⟨rfl,hb5⟩
     rw[HJT.out]
     exact hK.out _ _ hb5 rfl
    case s21 =>
     exact rk134
    case s22 =>
     exact rk129
    case s23 =>
     exact rk131
   case hp =>
    simp only[putP,Act.put,List.setIfInBounds_toArray,List.set_cons_zero,List.set_cons_succ,List.getElem_toArray,List.getElem_cons_zero,List.getElem_cons_succ]
    intro u wa hum hG hf K hK
    rw[hum]at hK ⊢
    clear hum
    have e0:(u 0)=v:=fact_ofU hf 0 (by kernel_rfl)
    have e23:∃g:Nat,(u 23)=.slice (some ⟨g,0,none⟩) 1 1∧wA.heap.size≤g∧wa.heap[g]?=some (.cells #[.string (nm++({ data:=#[40] }:ByteArray)++jt++({ data:=#[41] }:ByteArray))] 9):=fact_ofU hf 23 (by kernel_rfl)
    clear hf
    rw[e0]at hK ⊢
    obtain⟨g,e23,hg1,hg2⟩:=e23
    rw[e23]at hK ⊢
    have hold:=HOA.out.bel hG
    have hlv:=HOA.out.lt
    have hz9:=Bel.size hG
    have hzw:=hwA.size
    have hlz:(nm++({ data:=#[40] }:ByteArray)++jt++({ data:=#[41] }:ByteArray)).size≤maxLen:=by have h1:=add_le (add_le (add_le hnz (show ({ data:=#[40] }:ByteArray).size≤1 from Nat.le_refl 1)) hjz) (show ({ data:=#[41] }:ByteArray).size≤1 from Nat.le_refl 1);unfold maxLen;omega
    have hsr:Src wa 1 (some ⟨g,0,none⟩) 1 [] [[Dat.str (nm++({ data:=#[40] }:ByteArray)++jt++({ data:=#[41] }:ByteArray))]] [.string (nm++({ data:=#[40] }:ByteArray)++jt++({ data:=#[41] }:ByteArray))]:=⟨rfl,(fun h=>(by cases h)),⟨[],[],[.string (nm++({ data:=#[40] }:ByteArray)++jt++({ data:=#[41] }:ByteArray))],[],by simp,by simp,rfl,str_ownU wa hlz,rfl,rfl⟩,List.nodup_nil,fun ad hA j u hu=>by obtain rfl:=Option.some.inj hA;rw[addr_add];unfold World.cell?;simp only[hg2];simpa using hu⟩
    refine wp_append_D (.tmp 16) (.tmp 39) 22 rfl 9 is (.string ByteArray.empty) 1 16 Tryz.underlying22 his zs0 zs1 zs2 (by decide) (by decide) hold hsr 1 rfl rfl (fun b hb hm=>by cases hm) (by simp only[List.length_map,List.length_take];omega) (by simp only[List.length_map,List.length_take];unfold maxLen;omega) (fun v9 w9 hO9 hg9 hw9=>?_)
    (try simp only[Act.put,List.setIfInBounds_toArray,List.set_cons_zero,List.set_cons_succ,List.getElem_toArray,List.getElem_cons_zero,List.getElem_cons_succ])
    exact hK.out _ _ ⟨hg9.size,fun k hk hl=>hg9.block k hl (fun e=>by have:=hlv k (Or.inl e.symm);omega)⟩ ⟨wa,hG,hg9⟩ ⟨(show OwnD w9 9 1 v9 [] (((x8.take (i+1)).map (lineT (TStore.mk x0 x1 x2 x3 x4 x5 x6 x7 x8 x9 x10 x11 x12))).map (fun x=>[Dat.str x]))from by rw[line_take h,HLN.out];simpa using hO9),fun b hb=>hb.elim (fun q=>(hw9 b q).elim (fun q=>HBL.out b (Or.inl q)) (fun q=>by omega)) (fun q=>by cases q)⟩
   case hlast =>
    exact rk43
  ·
   skip
   exact rk151
end Go.Proofs.YtehcjlkgfgpjnaaGreatDoor
namespace Go.Proofs.YtehcjlkgfgpjnaaGreatDoor
set_option linter.unusedVariables false
set_option linter.unusedSimpArgs false
set_option maxRecDepth 100000
open Go.RowKit
abbrev DofC (f:FuncId):Prop:=∀(s:TStore) (S:Nat→Prop) (w:World) (vs:List Value),Sp w→P10 w→Dat.HoldVals w S s.D vs →
 Calls Tryz.prog f #[.agg vs.toArray] w fun e w'=>∃(A:Option Addr) (c:Nat) (L:List Nat),e=.returned (.slice A (dumpT s).length c)∧OwnRow w' L 1 A c ((dumpT s).map (fun x=>[Dat.str x]))∧L.Nodup∧(∀b,b∈L→w.heap.size≤b)∧Bel w w'
set_option maxHeartbeats 2000000 in
theorem specDof_any:DofC 6:=by
 intro s S w vs hsp h10 hv
 have HV:=hide hv
 have HSP:=hide hsp
 have H10:=hide h10
 obtain⟨vb,hvb⟩:∃b,validB s=b:=⟨_,rfl⟩
 have HB:=hide hvb
 obtain⟨x0,x1,x2,x3,x4,x5,x6,x7,x8,x9,x10,x11,x12⟩:=s
 obtain⟨A0,c0,A1,c1,A2,c2,A3,c3,A6,c6,A7,c7,A8,c8,rfl,-⟩:=TStore.vals hv
 clear hv hsp h10 hvb
 go_enter Tryz.func6,Tryz.ntmps6
 go_upto_region 1 with (fail)
 refine wp_named2 fun w1 hw1=>?_
 have hb1:Bel w w1:=by rw[←hw1];exact bl
 have HSt:=hide (show StoreAt w1 S w.heap.size (TStore.mk x0 x1 x2 x3 x4 x5 x6 x7 x8 x9 x10 x11 x12)from by rw[←hw1];exact StoreAt.mk_of HV.out rfl)
 have k0:w1.cell? ⟨w.heap.size,0,none⟩=some (.slice A0 x0.length c0):=by rw[←hw1];simp[go_sem]
 have k1:w1.cell? ⟨w.heap.size,1,none⟩=some (.slice A1 x1.length c1):=by rw[←hw1];simp[go_sem]
 have k2:w1.cell? ⟨w.heap.size,2,none⟩=some (.slice A2 x2.length c2):=by rw[←hw1];simp[go_sem]
 have k3:w1.cell? ⟨w.heap.size,3,none⟩=some (.slice A3 x3.length c3):=by rw[←hw1];simp[go_sem]
 have k4:w1.cell? ⟨w.heap.size,4,none⟩=some (.string x4):=by rw[←hw1];simp[go_sem]
 have k5:w1.cell? ⟨w.heap.size,5,none⟩=some (.int .i64 x5):=by rw[←hw1];simp[go_sem]
 have k6:w1.cell? ⟨w.heap.size,6,none⟩=some (.slice A6 x6.length c6):=by rw[←hw1];simp[go_sem]
 have k7:w1.cell? ⟨w.heap.size,7,none⟩=some (.slice A7 x7.length c7):=by rw[←hw1];simp[go_sem]
 have k8:w1.cell? ⟨w.heap.size,8,none⟩=some (.slice A8 x8.length c8):=by rw[←hw1];simp[go_sem]
 have k9:w1.cell? ⟨w.heap.size,9,none⟩=some (.bool x9):=by rw[←hw1];simp[go_sem]
 have k10:w1.cell? ⟨w.heap.size,10,none⟩=some (.int .i64 x10):=by rw[←hw1];simp[go_sem]
 have k11:w1.cell? ⟨w.heap.size,11,none⟩=some (.int .i64 x11):=by rw[←hw1];simp[go_sem]
 have k12:w1.cell? ⟨w.heap.size,12,none⟩=some (.int .i64 x12):=by rw[←hw1];simp[go_sem]
 clear hw1
 cases vb
 ·
  skip
  go_wp2_with (go_at_call 24;refine (specValid_any (TStore.mk x0 x1 x2 x3 x4 x5 x6 x7 x8 x9 x10 x11 x12) S _ _ (Dat.HoldVals.bel hb1 HV.out)).mono ?_;rintro e w2 ⟨rfl,hb2⟩;rw[HB.out])
  all_goals
   exact rk193
 ·
  skip
  go_wp2_with (first | (go_at_call 24;refine (specValid_any (TStore.mk x0 x1 x2 x3 x4 x5 x6 x7 x8 x9 x10 x11 x12) S _ _ (Dat.HoldVals.bel hb1 HV.out)).mono ?_;rintro e w2 ⟨rfl,hb2⟩;rw[HB.out]) | (go_at_call 25;refine (specDump_any (TStore.mk x0 x1 x2 x3 x4 x5 x6 x7 x8 x9 x10 x11 x12) S w.heap.size _ HB.out (StoreAt.bel hb2 HSt.out) (H10.out.on (Bel.trans hb1 hb2)) (HSP.out.on (Bel.trans hb1 hb2))).mono ?_;rintro e w3 ⟨A9,c9,L9,rfl,hr9,hn9,hm9,hb3⟩;have HR9:=hide hr9;have HN9:=hide hn9;have HM9:=hide hm9;clear hr9 hn9 hm9))
  all_goals
   exact rk169
set_option maxHeartbeats 2000000 in
theorem implDof_any:DofC 8:=by
 intro s S w vs hsp h10 hv
 have HV:=hide hv
 have HSP:=hide hsp
 have H10:=hide h10
 obtain⟨vb,hvb⟩:∃b,validB s=b:=⟨_,rfl⟩
 have HB:=hide hvb
 obtain⟨x0,x1,x2,x3,x4,x5,x6,x7,x8,x9,x10,x11,x12⟩:=s
 obtain⟨A0,c0,A1,c1,A2,c2,A3,c3,A6,c6,A7,c7,A8,c8,rfl,-⟩:=TStore.vals hv
 clear hv hsp h10 hvb
 go_enter Tryz.func8,Tryz.ntmps8
 go_upto_region 1 with (fail)
 refine wp_named2 fun w1 hw1=>?_
 have hb1:Bel w w1:=by rw[←hw1];exact bl
 have HSt:=hide (show StoreAt w1 S w.heap.size (TStore.mk x0 x1 x2 x3 x4 x5 x6 x7 x8 x9 x10 x11 x12)from by rw[←hw1];exact StoreAt.mk_of HV.out rfl)
 have k0:w1.cell? ⟨w.heap.size,0,none⟩=some (.slice A0 x0.length c0):=by rw[←hw1];simp[go_sem]
 have k1:w1.cell? ⟨w.heap.size,1,none⟩=some (.slice A1 x1.length c1):=by rw[←hw1];simp[go_sem]
 have k2:w1.cell? ⟨w.heap.size,2,none⟩=some (.slice A2 x2.length c2):=by rw[←hw1];simp[go_sem]
 have k3:w1.cell? ⟨w.heap.size,3,none⟩=some (.slice A3 x3.length c3):=by rw[←hw1];simp[go_sem]
 have k4:w1.cell? ⟨w.heap.size,4,none⟩=some (.string x4):=by rw[←hw1];simp[go_sem]
 have k5:w1.cell? ⟨w.heap.size,5,none⟩=some (.int .i64 x5):=by rw[←hw1];simp[go_sem]
 have k6:w1.cell? ⟨w.heap.size,6,none⟩=some (.slice A6 x6.length c6):=by rw[←hw1];simp[go_sem]
 have k7:w1.cell? ⟨w.heap.size,7,none⟩=some (.slice A7 x7.length c7):=by rw[←hw1];simp[go_sem]
 have k8:w1.cell? ⟨w.heap.size,8,none⟩=some (.slice A8 x8.length c8):=by rw[←hw1];simp[go_sem]
 have k9:w1.cell? ⟨w.heap.size,9,none⟩=some (.bool x9):=by rw[←hw1];simp[go_sem]
 have k10:w1.cell? ⟨w.heap.size,10,none⟩=some (.int .i64 x10):=by rw[←hw1];simp[go_sem]
 have k11:w1.cell? ⟨w.heap.size,11,none⟩=some (.int .i64 x11):=by rw[←hw1];simp[go_sem]
 have k12:w1.cell? ⟨w.heap.size,12,none⟩=some (.int .i64 x12):=by rw[←hw1];simp[go_sem]
 clear hw1
 cases vb
 ·
  skip
  go_wp2_with (go_at_call 31;refine (implValid_any (TStore.mk x0 x1 x2 x3 x4 x5 x6 x7 x8 x9 x10 x11 x12) S _ _ (HSP.out.on hb1) (Dat.HoldVals.bel hb1 HV.out)).mono ?_;rintro e w2 ⟨rfl,hb2⟩;rw[HB.out])
  all_goals
   exact rk193
 ·
  skip
  go_wp2_with (first | (go_at_call 31;refine (implValid_any (TStore.mk x0 x1 x2 x3 x4 x5 x6 x7 x8 x9 x10 x11 x12) S _ _ (HSP.out.on hb1) (Dat.HoldVals.bel hb1 HV.out)).mono ?_;rintro e w2 ⟨rfl,hb2⟩;rw[HB.out]) | (go_at_call 32;refine (implDump_any (TStore.mk x0 x1 x2 x3 x4 x5 x6 x7 x8 x9 x10 x11 x12) S w.heap.size _ HB.out (StoreAt.bel hb2 HSt.out) (H10.out.on (Bel.trans hb1 hb2)) (HSP.out.on (Bel.trans hb1 hb2))).mono ?_;rintro e w3 ⟨A9,c9,L9,rfl,hr9,hn9,hm9,hb3⟩;have HR9:=hide hr9;have HN9:=hide hn9;have HM9:=hide hm9;clear hr9 hn9 hm9))
  all_goals
   exact rk169
end Go.Proofs.YtehcjlkgfgpjnaaGreatDoor
