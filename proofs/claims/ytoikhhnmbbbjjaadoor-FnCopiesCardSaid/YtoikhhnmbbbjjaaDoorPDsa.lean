/- A store and a variable of it, drawn. -/
import Derived.Test.YtoikhhnmbbbjjaaDoorPr
import Derived.Test.YtoikhhnmbbbjjaaDoorPDs7
namespace Go.Proofs.YtoikhhnmbbbjjaaDoor
set_option linter.unusedVariables false
set_option linter.unusedSimpArgs false
set_option maxRecDepth 100000
open Go.RowKit
def DrRd (w:World) (e:Ending) (w':World):Prop:=∃(t:TStore) (vs:List Value) (v:VVal),e=.returned (.tuple #[.agg vs.toArray,v.val])∧Dat.HoldVals w' (fun b=>w.heap.size≤b) t.D vs∧t.objects.length≤25∧(∀o,o∈t.objects→o.its.length≤100∧o.kys.length≤100)∧(0≤t.made∧t.made≤25∧Dat.lnL t.D≤100000)∧v.Ok∧Bel w w'
structure DV (w:World) (c lw b5 r3:Nat) (u0 u1 u2 u3 u4 u5 u6 u7 u8 u9 u10 u11 u12:Value) (ds:List Dat) (wq:World):Prop where
 val:Dat.HoldVals wq (fun b=>lw≤b) ds [u0,u1,u2,u3,u4,u5,u6,u7,u8,u9,u10,u11,u12]
 box:SB wq b5 u0 u1 u2 u3 u4 u5 u6 u7 u8 u9 u10 u11 u12
 z3:Z6 wq r3
 bel:Bel w wq
 ne:w.heap.size≤c∧c<lw∧b5≠c∧r3≠c∧lw≤wq.heap.size
section
variable {w wq wz:World} {c lw b5 r2 r3:Nat} {u0 u1 u2 u3 u4 u5 u6 u7 u8 u9 u10 u11 u12:Value} {ds:List Dat}
theorem DV.oth (h:DV w c lw b5 r3 u0 u1 u2 u3 u4 u5 u6 u7 u8 u9 u10 u11 u12 ds wq) (k:Oth c wq wz):DV w c lw b5 r3 u0 u1 u2 u3 u4 u5 u6 u7 u8 u9 u10 u11 u12 ds wz :=
 ⟨Dat.HoldVals.offS (k.offS (S:=fun b=>lw≤b) (by have:=h.ne;show ¬lw≤c;omega)) (fun _ hx=>hx) h.val,h.box.block k.size (k.block b5 h.box.1 h.ne.2.2.1),h.z3.oth k h.ne.2.2.2.1,Oth.bel h.bel k h.ne.1,⟨h.ne.1,h.ne.2.1,h.ne.2.2.1,h.ne.2.2.2.1,Nat.le_trans h.ne.2.2.2.2 k.size⟩⟩
theorem DV.but (h:DV w c lw b5 r3 u0 u1 u2 u3 u4 u5 u6 u7 u8 u9 u10 u11 u12 ds wq) (k:ButB r2 wq wz) (h1:w.heap.size≤r2) (h2:r2<lw) (h3:r2≠b5) (h4:r2≠r3):DV w c lw b5 r3 u0 u1 u2 u3 u4 u5 u6 u7 u8 u9 u10 u11 u12 ds wz:=by
 have hz:=k.size
 refine⟨Dat.HoldVals.offS (S0:=fun b=>lw≤b) ⟨k.os,k.tape,k.output,by omega,fun d hd _=>k.block d (by omega)⟩ (fun _ hx=>hx) h.val,h.box.block (by omega) (k.block b5 (Ne.symm h3)),h.z3.block (by omega) (k.block r3 (Ne.symm h4)),⟨k.os.trans h.bel.os,k.tape.trans h.bel.tape,k.output.trans h.bel.output,by have:=h.bel.size;omega,fun d hd=>(k.block d (by omega)).trans (Below.block h.bel d hd)⟩,by have:=h.ne;omega⟩
theorem DV.store (h:DV w c lw b5 r3 u0 u1 u2 u3 u4 u5 u6 u7 u8 u9 u10 u11 u12 ds wq) {t:TStore} (ht:t.D=ds):StoreAt wq (fun b=>lw≤b) b5 t:=by
 obtain⟨hlb,hfb,k0,k1,k2,k3,k4,k5,k6,k7,k8,k9,k10,k11,k12⟩:=h.box
 refine⟨hlb,_,by rw[ht];exact h.val,fun j hj=>?_⟩
 match j,hj with
 | 0,_=>exact k0
 | 1,_=>exact k1
 | 2,_=>exact k2
 | 3,_=>exact k3
 | 4,_=>exact k4
 | 5,_=>exact k5
 | 6,_=>exact k6
 | 7,_=>exact k7
 | 8,_=>exact k8
 | 9,_=>exact k9
 | 10,_=>exact k10
 | 11,_=>exact k11
 | 12,_=>exact k12
 | m+13,h=>omega
end
theorem z6_there {w:World} {b:Nat} (h:Z6 w b):w.there b 0 6:=by
 obtain⟨c0,c1,c2,c3,c4,c5,f,l⟩:=h
 intro j hj
 rcases (show j=0∨j=1∨j=2∨j=3∨j=4∨j=5 by omega)with rfl | rfl | rfl | rfl | rfl | rfl
 ·
  exact⟨by rw[show 0+0=0 from rfl,c0];rfl,f _⟩
 ·
  exact⟨by rw[show 0+1=1 from rfl,c1];rfl,f _⟩
 ·
  exact⟨by rw[show 0+2=2 from rfl,c2];rfl,f _⟩
 ·
  exact⟨by rw[show 0+3=3 from rfl,c3];rfl,f _⟩
 ·
  exact⟨by rw[show 0+4=4 from rfl,c4];rfl,f _⟩
 ·
  exact⟨by rw[show 0+5=5 from rfl,c5];rfl,f _⟩
theorem z6_fill {w:World} {b:Nat} (h:Z6 w b) (x0 x1 x2 x3 x4 x5:Value):(w.setCells b 0 [x0,x1,x2,x3,x4,x5]).cell? ⟨b,0,none⟩=some x0∧(w.setCells b 0 [x0,x1,x2,x3,x4,x5]).cell? ⟨b,1,none⟩=some x1∧(w.setCells b 0 [x0,x1,x2,x3,x4,x5]).cell? ⟨b,2,none⟩=some x2∧(w.setCells b 0 [x0,x1,x2,x3,x4,x5]).cell? ⟨b,3,none⟩=some x3∧(w.setCells b 0 [x0,x1,x2,x3,x4,x5]).cell? ⟨b,4,none⟩=some x4∧(w.setCells b 0 [x0,x1,x2,x3,x4,x5]).cell? ⟨b,5,none⟩=some x5:=h.put x0 x1 x2 x3 x4 x5
theorem thirteen {w:World} {S:Nat→Prop} {t:TStore} {vs:List Value} (h:Dat.HoldVals w S t.D vs):∃(A0:Option Addr) (n0 c0:Nat) (A1:Option Addr) (n1 c1:Nat) (A2:Option Addr) (n2 c2:Nat) (A3:Option Addr) (n3 c3:Nat) (x4:ByteArray) (x5:Int) (A6:Option Addr) (n6 c6:Nat) (A7:Option Addr) (n7 c7:Nat) (A8:Option Addr) (n8 c8:Nat) (x9:Bool) (x10 x11 x12:Int),vs=[.slice A0 n0 c0,.slice A1 n1 c1,.slice A2 n2 c2,.slice A3 n3 c3,.string x4,.int .i64 x5,.slice A6 n6 c6,.slice A7 n7 c7,.slice A8 n8 c8,.bool x9,.int .i64 x10,.int .i64 x11,.int .i64 x12]:=by
 obtain⟨x0,x1,x2,x3,x4,x5,x6,x7,x8,x9,x10,x11,x12⟩:=t
 obtain⟨A0,c0,A1,c1,A2,c2,A3,c3,A6,c6,A7,c7,A8,c8,rfl,-⟩:=TStore.vals h
 exact⟨_,_,_,_,_,_,_,_,_,_,_,_,_,_,_,_,_,_,_,_,_,_,_,_,_,_,_,rfl⟩
end Go.Proofs.YtoikhhnmbbbjjaaDoor
namespace Go.Proofs.YtoikhhnmbbbjjaaDoor
set_option linter.unusedVariables false
set_option linter.unusedSimpArgs false
set_option maxRecDepth 100000
open Go.RowKit
set_option maxHeartbeats 4000000 in
theorem l16Draw_any (A:Option Addr) (n cap:Nat) (w:World) (hn:n≤1048576) (hB:∀c,w.heap.size≤c→Bts w c A n):Calls Tryd.prog 11 #[.slice A n cap] w (DrRd w):=by
 have HB:=hide hB
 clear hB
 go_enter Tryd.func11,Tryd.ntmps11
 go_upto_region 1 with (fail)
 refine wp_named2 fun wl hwl=>?_
 have hzl:wl.heap.size=w.heap.size+1+1:=by rw[←hwl];simp
 have hbl:Bel w wl:=by rw[←hwl];exact bl
 have RL:=hide (show SB wl w.heap.size (.slice none 0 0) (.slice none 0 0) (.slice none 0 0) (.slice none 0 0) (.string ByteArray.empty) (.int .i64 0) (.slice none 0 0) (.slice none 0 0) (.slice none 0 0) (.bool false) (.int .i64 0) (.int .i64 0) (.int .i64 0)from by rw[←hwl];exact SB.on (SB.new w 30) (Bel.alloc (Bel.refl _) _))
 have ZL:=hide (show Z6 wl (w.heap.size+1)from by rw[←hwl];have h:=Z6.new (w:=w.alloc (.cells #[.slice none 0 0,.slice none 0 0,.slice none 0 0,.slice none 0 0,.string ByteArray.empty,.int .i64 0,.slice none 0 0,.slice none 0 0,.slice none 0 0,.bool false,.int .i64 0,.int .i64 0,.int .i64 0] 30)) (t:=34);rw[World.size_alloc]at h;exact h)
 clear hwl
 have HZL:=hide hzl
 have hlt:w.heap.size+1<wl.heap.size:=by omega
 clear hzl
 go_upto_region 2 with (go_at_call 25;refine (l1New_any A n cap wl hn (fun c h=>(HB.out c (by omega)).on (Oth.of_bel hbl))).mono ?_;rintro e w1 ⟨rfl,hC1,hb1⟩;have HC1:=hide hC1;have Hb1:=hide hb1;clear hC1 hb1)
 obtain⟨c,hce⟩:∃x,wl.heap.size=x:=⟨_,rfl⟩
 rw[hce]at HC1
 simp only[hce]
 have hc1:=HC1.out.1
 have hcw:w.heap.size+1<c:=by omega
 go_upto_region 3 with (go_at_call 26;refine (l13Store_any c A n cap w1 HC1.out).mono ?_;rintro e w2 ⟨t,vs,rfl,hv,ht25,hsm,hmd,hC2,hO2⟩;have HV:=hide hv;have HSM:=hide hsm;have HMD:=hide hmd;have HC2:=hide hC2;have HO2:=hide hO2;clear hv hC2 hO2 hsm hmd;obtain⟨A0,n0,c0,A1,n1,c1,A2,n2,c2,A3,n3,c3,x4,x5,A6,n6,c6,A7,n7,c7,A8,n8,c8,x9,x10,x11,x12,rfl⟩:=thirteen HV.out)
 refine wp_named2 fun w3 hw3=>?_
 have hb3:Bel w2 w3:=by rw[←hw3];exact bl
 have B3:=hide (show SB w3 w2.heap.size (.slice A0 n0 c0) (.slice A1 n1 c1) (.slice A2 n2 c2) (.slice A3 n3 c3) (.string x4) (.int .i64 x5) (.slice A6 n6 c6) (.slice A7 n7 c7) (.slice A8 n8 c8) (.bool x9) (.int .i64 x10) (.int .i64 x11) (.int .i64 x12)from by rw[←hw3];exact SB.new w2 _)
 have HC3:=hide (HC2.out.bel hb3)
 have hz3:w2.heap.size<w3.heap.size:=B3.out.1
 clear hw3
 obtain⟨b5,hb5⟩:∃x,w2.heap.size=x:=⟨_,rfl⟩
 rw[hb5]at B3
 simp only[hb5]
 obtain⟨lw,hlw⟩:∃x,w1.heap.size=x:=⟨_,rfl⟩
 have hs2:=HO2.out.size
 have hs1:=Hb1.out.size
 obtain⟨r2,hr2⟩:∃x,w.heap.size=x:=⟨_,rfl⟩
 obtain⟨r3,hr3⟩:∃x,w.heap.size+1=x:=⟨_,rfl⟩
 have D3:=hide (show DV w c lw b5 r3 (.slice A0 n0 c0) (.slice A1 n1 c1) (.slice A2 n2 c2) (.slice A3 n3 c3) (.string x4) (.int .i64 x5) (.slice A6 n6 c6) (.slice A7 n7 c7) (.slice A8 n8 c8) (.bool x9) (.int .i64 x10) (.int .i64 x11) (.int .i64 x12) t.D w3 from by
  rw[←hlw,←hb5,←hr3]
  exact⟨Dat.HoldVals.bel hb3 HV.out,by rw[hb5];exact B3.out,((ZL.out.on Hb1.out).oth HO2.out (by omega)).on hb3,(Oth.bel (hbl.trans Hb1.out) HO2.out (by omega)).trans hb3,by omega⟩)
 have R3:=hide (show SB w3 r2 (.slice none 0 0) (.slice none 0 0) (.slice none 0 0) (.slice none 0 0) (.string ByteArray.empty) (.int .i64 0) (.slice none 0 0) (.slice none 0 0) (.slice none 0 0) (.bool false) (.int .i64 0) (.int .i64 0) (.int .i64 0)from by rw[←hr2];exact (((RL.out.on Hb1.out).block HO2.out.size (HO2.out.block _ (by have:=RL.out.1;omega) (by omega))).on hb3))
 have hr2c:r2≠c:=by omega
 have hcl:¬(fun b=>lw≤b) c:=by show ¬lw≤c;omega
 have hcb:c≠b5:=by omega
 have hr2w:w.heap.size≤r2:=by omega
 have hr2l:r2<lw:=by omega
 have hr2b:r2≠b5:=by omega
 have hr23:r2≠r3:=by omega
 have hr3l:r3<lw:=by omega
 have hr3w:w.heap.size≤r3:=by omega
 clear HB RL ZL HC1 Hb1 HV HC2 HO2 B3 hb3 hbl HZL
 simp only[hr3]
 simp only[hr2]
 clear hr3 hce hb5 hlw hs2 hs1 hz3 hlt hc1
 go_upto_if 11 with (go_at_call 27;refine (l1Once_any 10 c A n cap _ HC3.out (by unfold InI;omega)).mono ?_;rintro e w4 ⟨zz,rfl,hC,hO⟩;have HC4:=hide hC;have D4:=hide (D3.out.oth hO);have R4:=hide (R3.out.block hO.size (hO.block r2 R3.out.1 hr2c));clear hC hO)
 clear D3 R3 HC3
 cases zz
 ·
  go_upto_region 5 with (fail)
  refine wp_region_inv 4 (fun s f wq=>(s 0=true→(f 0)=.agg #[.slice A0 n0 c0,.slice A1 n1 c1,.slice A2 n2 c2,.slice A3 n3 c3,.string x4,.int .i64 x5,.slice A6 n6 c6,.slice A7 n7 c7,.slice A8 n8 c8,.bool x9,.int .i64 x10,.int .i64 x11,.int .i64 x12])∧(s 1=true→(f 1)=.pointer (some ⟨c,0,none⟩))∧(s 2=true→∃v:VVal,v.Ok∧(f 2)=.agg #[.int .i64 v.k,.int .i64 v.n,.int .i64 v.i,.string v.t,.int .i64 v.lo,.int .i64 v.hi])∧(s 2=false→Cur wq c A n cap)∧(DV w c lw b5 r3 (.slice A0 n0 c0) (.slice A1 n1 c1) (.slice A2 n2 c2) (.slice A3 n3 c3) (.string x4) (.int .i64 x5) (.slice A6 n6 c6) (.slice A7 n7 c7) (.slice A8 n8 c8) (.bool x9) (.int .i64 x10) (.int .i64 x11) (.int .i64 x12) t.D wq)∧(s 3=false→SB wq r2 (.slice none 0 0) (.slice none 0 0) (.slice none 0 0) (.slice none 0 0) (.string ByteArray.empty) (.int .i64 0) (.slice none 0 0) (.slice none 0 0) (.slice none 0 0) (.bool false) (.int .i64 0) (.int .i64 0) (.int .i64 0))∧(s 3=true→SB wq r2 (.slice A0 n0 c0) (.slice A1 n1 c1) (.slice A2 n2 c2) (.slice A3 n3 c3) (.string x4) (.int .i64 x5) (.slice A6 n6 c6) (.slice A7 n7 c7) (.slice A8 n8 c8) (.bool x9) (.int .i64 x10) (.int .i64 x11) (.int .i64 x12))) [(0,some 15),(1,some 16),(2,some 17),(3,none),(4,none)] rfl (by kernel_rfl) (by kernel_rfl) ?hJ rfl ?hstep ?hlast
  case hJ=>exact fun u=>⟨(fun h=>absurd h Bool.false_ne_true),(fun h=>absurd h Bool.false_ne_true),(fun h=>absurd h Bool.false_ne_true),fun _=>HC4.out.bel bl,D4.out.oth (Oth.of_bel bl),fun _=>R4.out.on bl,(fun h=>absurd h Bool.false_ne_true)⟩
  case hstep =>
   simp only[putP,Act.put,List.setIfInBounds_toArray,List.set_cons_zero,List.set_cons_succ,List.getElem_toArray,List.getElem_cons_zero,List.getElem_cons_succ]
   refine (stepsJ_cons (i:=0) (i2:=1) (o:=_) rfl ?s0 (stepsJ_cons (i:=1) (i2:=2) (o:=_) rfl ?s1 (stepsJ_cons (i:=2) (i2:=3) (o:=_) rfl ?s2 (stepsJ_cons (i:=3) (i2:=4) (o:=_) rfl ?s3 (stepsJ_nil (by decide))))))
   case s0 =>
    exact rk164
   case s1 =>
    exact rk181
   case s2 =>
    intro uf wa s hs ha cl hJ K hK
    obtain⟨j_ld,j_mv,j_call,j_C,j_D,j_Z,j_X⟩:=hJ
    have e_mv:=j_mv (ha 1 (by kernel_rfl))
    have h3:s 3=false:=by cases hq:s 3 with | false=>rfl | true=>exact absurd (cl 3 hq 2 (by kernel_rfl)) (by rw[hs];exact Bool.false_ne_true)
    have hCur:=j_C hs
    have hZ:=j_Z h3
    simp only[Act.put,List.setIfInBounds_toArray,List.set_cons_zero,List.set_cons_succ,List.getElem_toArray,List.getElem_cons_zero,List.getElem_cons_succ]at hK ⊢
    rw[e_mv]at hK ⊢
    go_simp
    go_at_call 29
    refine (l13Some_any t (fun b=>lw≤b) b5 c A n cap wa hCur (j_D.store rfl) hcl (Ne.symm hcb) (by omega)).mono ?_
    rintro e w5 ⟨⟨k5,n5,i5,t5,l5,h5⟩,hv,he,hC,hO⟩
    exact rk174
   case s3 =>
    intro uf wa s hs ha cl hJ K hK
    obtain⟨j_ld,j_mv,j_call,j_C,j_D,j_Z,j_X⟩:=hJ
    have e_ld:=j_ld (ha 0 (by kernel_rfl))
    have hZ:=j_Z hs
    simp only[Act.put,List.setIfInBounds_toArray,List.set_cons_zero,List.set_cons_succ,List.getElem_toArray,List.getElem_cons_zero,List.getElem_cons_succ]at hK ⊢
    rw[e_ld]at hK ⊢
    refine wp_store_mid 30 (.tmp 2) (.tmp 15) rfl r2 0 #[.slice A0 n0 c0,.slice A1 n1 c1,.slice A2 n2 c2,.slice A3 n3 c3,.string x4,.int .i64 x5,.slice A6 n6 c6,.slice A7 n7 c7,.slice A8 n8 c8,.bool x9,.int .i64 x10,.int .i64 x11,.int .i64 x12] rfl rfl hZ.there (by kernel_rfl) (by simp[Value.oneCell']) ?_
    exact hK.out undef _ ⟨j_ld,j_mv,j_call,fun h=>absurd ((ha 2 (by kernel_rfl)).symm.trans h) (by decide),j_D.but (setCells_but r2 [.slice A0 n0 c0,.slice A1 n1 c1,.slice A2 n2 c2,.slice A3 n3 c3,.string x4,.int .i64 x5,.slice A6 n6 c6,.slice A7 n7 c7,.slice A8 n8 c8,.bool x9,.int .i64 x10,.int .i64 x11,.int .i64 x12] 0 wa) hr2w hr2l hr2b hr23,fun h=>absurd (show true=false from h) (by decide),fun _=>hZ.fill (.slice A0 n0 c0) (.slice A1 n1 c1) (.slice A2 n2 c2) (.slice A3 n3 c3) (.string x4) (.int .i64 x5) (.slice A6 n6 c6) (.slice A7 n7 c7) (.slice A8 n8 c8) (.bool x9) (.int .i64 x10) (.int .i64 x11) (.int .i64 x12)⟩
  case hlast =>
   simp only[putP,Act.put,List.setIfInBounds_toArray,List.set_cons_zero,List.set_cons_succ,List.getElem_toArray,List.getElem_cons_zero,List.getElem_cons_succ]
   intro uf wa ⟨s,hall,hJ⟩ K hK
   obtain⟨j_ld,j_mv,j_call,j_C,j_D,j_Z,j_X⟩:=hJ
   obtain⟨⟨k5,n5,i5,t5,l5,h5⟩,hv,e_call⟩:=j_call (hall 2 (by decide))
   have hX:=j_X (hall 3 (by decide))
   simp only at e_call
   rw[e_call]at hK ⊢
   clear j_ld j_mv j_call j_C j_Z j_X hall
   refine wp_store_mid 34 (.tmp 3) (.tmp 17) rfl r3 0 #[.int .i64 k5,.int .i64 n5,.int .i64 i5,.string t5,.int .i64 l5,.int .i64 h5] rfl rfl (z6_there j_D.z3) (by kernel_rfl) (by simp[Value.oneCell']) ?_
   exact rk78
 ·
  go_upto_region 4 with (fail)
  refine wp_region_inv 4 (fun s f wq=>(s 0=true→(f 0)=.agg #[.slice A0 n0 c0,.slice A1 n1 c1,.slice A2 n2 c2,.slice A3 n3 c3,.string x4,.int .i64 x5,.slice A6 n6 c6,.slice A7 n7 c7,.slice A8 n8 c8,.bool x9,.int .i64 x10,.int .i64 x11,.int .i64 x12])∧(s 1=true→(f 1)=.pointer (some ⟨c,0,none⟩))∧(s 2=true→∃v:VVal,v.Ok∧(f 2)=.agg #[.int .i64 v.k,.int .i64 v.n,.int .i64 v.i,.string v.t,.int .i64 v.lo,.int .i64 v.hi])∧(s 2=false→Cur wq c A n cap)∧(DV w c lw b5 r3 (.slice A0 n0 c0) (.slice A1 n1 c1) (.slice A2 n2 c2) (.slice A3 n3 c3) (.string x4) (.int .i64 x5) (.slice A6 n6 c6) (.slice A7 n7 c7) (.slice A8 n8 c8) (.bool x9) (.int .i64 x10) (.int .i64 x11) (.int .i64 x12) t.D wq)∧(s 3=false→SB wq r2 (.slice none 0 0) (.slice none 0 0) (.slice none 0 0) (.slice none 0 0) (.string ByteArray.empty) (.int .i64 0) (.slice none 0 0) (.slice none 0 0) (.slice none 0 0) (.bool false) (.int .i64 0) (.int .i64 0) (.int .i64 0))∧(s 3=true→SB wq r2 (.slice A0 n0 c0) (.slice A1 n1 c1) (.slice A2 n2 c2) (.slice A3 n3 c3) (.string x4) (.int .i64 x5) (.slice A6 n6 c6) (.slice A7 n7 c7) (.slice A8 n8 c8) (.bool x9) (.int .i64 x10) (.int .i64 x11) (.int .i64 x12))) [(0,some 12),(1,some 13),(2,some 14),(3,none),(4,none)] rfl (by kernel_rfl) (by kernel_rfl) ?hJ rfl ?hstep ?hlast
  case hJ=>exact fun u=>⟨(fun h=>absurd h Bool.false_ne_true),(fun h=>absurd h Bool.false_ne_true),(fun h=>absurd h Bool.false_ne_true),fun _=>HC4.out.bel bl,D4.out.oth (Oth.of_bel bl),fun _=>R4.out.on bl,(fun h=>absurd h Bool.false_ne_true)⟩
  case hstep =>
   simp only[putP,Act.put,List.setIfInBounds_toArray,List.set_cons_zero,List.set_cons_succ,List.getElem_toArray,List.getElem_cons_zero,List.getElem_cons_succ]
   refine (stepsJ_cons (i:=0) (i2:=1) (o:=_) rfl ?s0 (stepsJ_cons (i:=1) (i2:=2) (o:=_) rfl ?s1 (stepsJ_cons (i:=2) (i2:=3) (o:=_) rfl ?s2 (stepsJ_cons (i:=3) (i2:=4) (o:=_) rfl ?s3 (stepsJ_nil (by decide))))))
   case s0 =>
    exact rk164
   case s1 =>
    exact rk181
   case s2 =>
    intro uf wa s hs ha cl hJ K hK
    obtain⟨j_ld,j_mv,j_call,j_C,j_D,j_Z,j_X⟩:=hJ
    have e_mv:=j_mv (ha 1 (by kernel_rfl))
    have h3:s 3=false:=by cases hq:s 3 with | false=>rfl | true=>exact absurd (cl 3 hq 2 (by kernel_rfl)) (by rw[hs];exact Bool.false_ne_true)
    have hCur:=j_C hs
    have hZ:=j_Z h3
    simp only[Act.put,List.setIfInBounds_toArray,List.set_cons_zero,List.set_cons_succ,List.getElem_toArray,List.getElem_cons_zero,List.getElem_cons_succ]at hK ⊢
    rw[e_mv]at hK ⊢
    go_simp
    go_at_call 28
    refine (l11Draw_any c A n cap wa hCur).mono ?_
    rintro e w5 ⟨⟨k5,n5,i5,t5,l5,h5⟩,hv,he,hC,hO⟩
    exact rk174
   case s3 =>
    intro uf wa s hs ha cl hJ K hK
    obtain⟨j_ld,j_mv,j_call,j_C,j_D,j_Z,j_X⟩:=hJ
    have e_ld:=j_ld (ha 0 (by kernel_rfl))
    have hZ:=j_Z hs
    simp only[Act.put,List.setIfInBounds_toArray,List.set_cons_zero,List.set_cons_succ,List.getElem_toArray,List.getElem_cons_zero,List.getElem_cons_succ]at hK ⊢
    rw[e_ld]at hK ⊢
    refine wp_store_mid 30 (.tmp 2) (.tmp 12) rfl r2 0 #[.slice A0 n0 c0,.slice A1 n1 c1,.slice A2 n2 c2,.slice A3 n3 c3,.string x4,.int .i64 x5,.slice A6 n6 c6,.slice A7 n7 c7,.slice A8 n8 c8,.bool x9,.int .i64 x10,.int .i64 x11,.int .i64 x12] rfl rfl hZ.there (by kernel_rfl) (by simp[Value.oneCell']) ?_
    exact hK.out undef _ ⟨j_ld,j_mv,j_call,fun h=>absurd ((ha 2 (by kernel_rfl)).symm.trans h) (by decide),j_D.but (setCells_but r2 [.slice A0 n0 c0,.slice A1 n1 c1,.slice A2 n2 c2,.slice A3 n3 c3,.string x4,.int .i64 x5,.slice A6 n6 c6,.slice A7 n7 c7,.slice A8 n8 c8,.bool x9,.int .i64 x10,.int .i64 x11,.int .i64 x12] 0 wa) hr2w hr2l hr2b hr23,fun h=>absurd (show true=false from h) (by decide),fun _=>hZ.fill (.slice A0 n0 c0) (.slice A1 n1 c1) (.slice A2 n2 c2) (.slice A3 n3 c3) (.string x4) (.int .i64 x5) (.slice A6 n6 c6) (.slice A7 n7 c7) (.slice A8 n8 c8) (.bool x9) (.int .i64 x10) (.int .i64 x11) (.int .i64 x12)⟩
  case hlast =>
   simp only[putP,Act.put,List.setIfInBounds_toArray,List.set_cons_zero,List.set_cons_succ,List.getElem_toArray,List.getElem_cons_zero,List.getElem_cons_succ]
   intro uf wa ⟨s,hall,hJ⟩ K hK
   obtain⟨j_ld,j_mv,j_call,j_C,j_D,j_Z,j_X⟩:=hJ
   obtain⟨⟨k5,n5,i5,t5,l5,h5⟩,hv,e_call⟩:=j_call (hall 2 (by decide))
   have hX:=j_X (hall 3 (by decide))
   simp only at e_call
   rw[e_call]at hK ⊢
   clear j_ld j_mv j_call j_C j_Z j_X hall
   refine wp_store_mid 34 (.tmp 3) (.tmp 14) rfl r3 0 #[.int .i64 k5,.int .i64 n5,.int .i64 i5,.string t5,.int .i64 l5,.int .i64 h5] rfl rfl (z6_there j_D.z3) (by kernel_rfl) (by simp[Value.oneCell']) ?_
   exact rk78
set_option maxHeartbeats 1000000 in
theorem drawCopyValue_any (A:Option Addr) (n cap:Nat) (w:World) (hn:n≤1048576) (hB:∀c,w.heap.size≤c→Bts w c A n):Calls Tryd.prog 5 #[.slice A n cap] w (DrRd w):=by
 have HB:=hide hB
 clear hB
 go_enter Tryd.func5,Tryd.ntmps5
 go_upto_region 1 with (fail)
 refine wp_named2 fun wl hwl=>?_
 have hzl:wl.heap.size=w.heap.size+1+1:=by rw[←hwl];simp
 have hbl:Bel w wl:=by rw[←hwl];exact bl
 have RL:=hide (show SB wl w.heap.size (.slice none 0 0) (.slice none 0 0) (.slice none 0 0) (.slice none 0 0) (.string ByteArray.empty) (.int .i64 0) (.slice none 0 0) (.slice none 0 0) (.slice none 0 0) (.bool false) (.int .i64 0) (.int .i64 0) (.int .i64 0)from by rw[←hwl];exact SB.on (SB.new w 30) (Bel.alloc (Bel.refl _) _))
 have ZL:=hide (show Z6 wl (w.heap.size+1)from by rw[←hwl];have h:=Z6.new (w:=w.alloc (.cells #[.slice none 0 0,.slice none 0 0,.slice none 0 0,.slice none 0 0,.string ByteArray.empty,.int .i64 0,.slice none 0 0,.slice none 0 0,.slice none 0 0,.bool false,.int .i64 0,.int .i64 0,.int .i64 0] 30)) (t:=34);rw[World.size_alloc]at h;exact h)
 clear hwl
 refine wp_region_lit ?_
 refine wpList_plain rfl fun K hK=>?_
 go_simp
 refine hK _ _ ?_
 clear hK K
 refine wpList_plain rfl fun K hK=>?_
 go_simp
 go_at_call 11
 refine (l16Draw_any A n cap wl hn (fun c h=>(HB.out c (by omega)).on (Oth.of_bel hbl))).mono ?_
 rintro e w2 ⟨t,vs,⟨k5,n5,i5,t5,l5,h5⟩,he,hv,ht25,hsm,hmd,hx,hb⟩
 replace he:e=.returned (.tuple #[.agg vs.toArray,.agg #[.int .i64 k5,.int .i64 n5,.int .i64 i5,.string t5,.int .i64 l5,.int .i64 h5]]):=he
 have HV:=hide hv
 have HSM:=hide hsm
 have HX:=hide hx
 have Hb:=hide hb
 clear hv hsm hx
 obtain⟨A0,n0,c0,A1,n1,c1,A2,n2,c2,A3,n3,c3,x4,x5,A6,n6,c6,A7,n7,c7,A8,n8,c8,x9,x10,x11,x12,rfl⟩:=thirteen HV.out
 subst he
 have R2:=hide (RL.out.on hb)
 have Z2:=hide (ZL.out.on hb)
 have hz2:=hb.size
 clear hb
 refine hK _ _ ?_
 clear hK K
 refine wpList_plain rfl fun K hK=>?_
 go_simp
 refine hK _ _ ?_
 clear hK K
 refine wpList_plain rfl fun K hK=>?_
 go_simp
 refine hK _ _ ?_
 clear hK K
 refine wpList_store_mid rfl 30 (.tmp 2) (.tmp 6) rfl w.heap.size 0 #[.slice A0 n0 c0,.slice A1 n1 c1,.slice A2 n2 c2,.slice A3 n3 c3,.string x4,.int .i64 x5,.slice A6 n6 c6,.slice A7 n7 c7,.slice A8 n8 c8,.bool x9,.int .i64 x10,.int .i64 x11,.int .i64 x12] rfl rfl R2.out.there (by kernel_rfl) (by simp[Value.oneCell']) ?_
 refine wpList_namedD fun w3 hw3=>?_
 have B3:ButB w.heap.size w2 w3:=by rw[hw3];exact setCells_but _ _ _ _
 have S3:SB w3 w.heap.size (.slice A0 n0 c0) (.slice A1 n1 c1) (.slice A2 n2 c2) (.slice A3 n3 c3) (.string x4) (.int .i64 x5) (.slice A6 n6 c6) (.slice A7 n7 c7) (.slice A8 n8 c8) (.bool x9) (.int .i64 x10) (.int .i64 x11) (.int .i64 x12):=by rw[hw3];exact R2.out.fill (.slice A0 n0 c0) (.slice A1 n1 c1) (.slice A2 n2 c2) (.slice A3 n3 c3) (.string x4) (.int .i64 x5) (.slice A6 n6 c6) (.slice A7 n7 c7) (.slice A8 n8 c8) (.bool x9) (.int .i64 x10) (.int .i64 x11) (.int .i64 x12)
 have Z3:Z6 w3 (w.heap.size+1):=Z2.out.block (Nat.le_of_eq B3.size.symm) (B3.block _ (by omega))
 clear hw3
 refine wpList_store_mid rfl 34 (.tmp 3) (.tmp 7) rfl (w.heap.size+1) 0 #[.int .i64 k5,.int .i64 n5,.int .i64 i5,.string t5,.int .i64 l5,.int .i64 h5] rfl rfl (z6_there Z3) (by kernel_rfl) (by simp[Value.oneCell']) ?_
 refine wpList_namedD fun w4 hw4=>?_
 have B4:ButB (w.heap.size+1) w3 w4:=by rw[hw4];exact setCells_but _ _ _ _
 have S4:=S3.block (Nat.le_of_eq B4.size.symm) (B4.block _ (by omega))
 have F4:w4.cell? ⟨w.heap.size+1,0,none⟩=some (.int .i64 k5)∧w4.cell? ⟨w.heap.size+1,1,none⟩=some (.int .i64 n5)∧w4.cell? ⟨w.heap.size+1,2,none⟩=some (.int .i64 i5)∧w4.cell? ⟨w.heap.size+1,3,none⟩=some (.string t5)∧w4.cell? ⟨w.heap.size+1,4,none⟩=some (.int .i64 l5)∧w4.cell? ⟨w.heap.size+1,5,none⟩=some (.int .i64 h5):=by rw[hw4];exact z6_fill Z3 _ _ _ _ _ _
 clear hw4
 have h3:=B3.size
 have h4:=B4.size
 have HV4:=hide (show Dat.HoldVals w4 (fun b=>w.heap.size≤b) t.D [.slice A0 n0 c0,.slice A1 n1 c1,.slice A2 n2 c2,.slice A3 n3 c3,.string x4,.int .i64 x5,.slice A6 n6 c6,.slice A7 n7 c7,.slice A8 n8 c8,.bool x9,.int .i64 x10,.int .i64 x11,.int .i64 x12]from (Dat.HoldVals.offS (S0:=fun b=>wl.heap.size≤b) ⟨B4.os.trans B3.os,B4.tape.trans B3.tape,B4.output.trans B3.output,by omega,fun d hd _=>(B4.block d (by omega)).trans (B3.block d (by omega))⟩ (fun _ hx=>hx) HV.out).wide (fun b hb=>by omega))
 have HB4:=hide (show Bel w w4 from⟨B4.os.trans (B3.os.trans (Hb.out.os.trans hbl.os)),B4.tape.trans (B3.tape.trans (Hb.out.tape.trans hbl.tape)),B4.output.trans (B3.output.trans (Hb.out.output.trans hbl.output)),by omega,fun d hd=>(B4.block d (by omega)).trans ((B3.block d (by omega)).trans (Below.block (hbl.trans Hb.out) d hd))⟩)
 clear B3 B4 S3 Z3 h3 h4
 obtain⟨e0,e1,e2,e3,e4,e5⟩:=F4
 obtain⟨-,-,d0,d1,d2,d3,d4,d5,d6,d7,d8,d9,d10,d11,d12⟩:=S4
 refine wpList_nil ?_
 go_simp
 rename_i hKr
 refine hKr _ _ ?_
 clear hKr
 refine wp_ret ?_
 exact bodyPost_ret (v:=.tuple #[.agg #[.slice A0 n0 c0,.slice A1 n1 c1,.slice A2 n2 c2,.slice A3 n3 c3,.string x4,.int .i64 x5,.slice A6 n6 c6,.slice A7 n7 c7,.slice A8 n8 c8,.bool x9,.int .i64 x10,.int .i64 x11,.int .i64 x12],.agg #[.int .i64 k5,.int .i64 n5,.int .i64 i5,.string t5,.int .i64 l5,.int .i64 h5]]) (by simp[results,Tryd.results5,d0,d1,d2,d3,d4,d5,d6,d7,d8,d9,d10,d11,d12,e0,e1,e2,e3,e4,e5,go_sem];try rfl) rfl ⟨t,[.slice A0 n0 c0,.slice A1 n1 c1,.slice A2 n2 c2,.slice A3 n3 c3,.string x4,.int .i64 x5,.slice A6 n6 c6,.slice A7 n7 c7,.slice A8 n8 c8,.bool x9,.int .i64 x10,.int .i64 x11,.int .i64 x12],⟨k5,n5,i5,t5,l5,h5⟩,rfl,HV4.out,ht25,HSM.out,hmd,HX.out,HB4.out⟩
end Go.Proofs.YtoikhhnmbbbjjaaDoor
