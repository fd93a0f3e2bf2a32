/- The program: is a value in a store? -/
import Derived.Test.YtoikhhnmbbbjjaaDoorPr
import Derived.Test.YtoikhhnmbbbjjaaDoorPS3
namespace Go.Proofs.YtoikhhnmbbbjjaaDoor
set_option linter.unusedVariables false
set_option linter.unusedSimpArgs false
set_option maxRecDepth 100000
open Go.RowKit
--%quiet
set_option maxHeartbeats 2000000 in
theorem implIn_13 (n i:Int) (t:ByteArray) (lo hi:Int) (s:TStore):InC 30 s ⟨13,n,i,t,lo,hi⟩:=by
 intro S q w hs hv
 obtain⟨x0,x1,x2,x3,x4,x5,x6,x7,x8,x9,x10,x11,x12⟩:=s
 have HSt:=hide hs
 obtain⟨A0,c0,A1,c1,A2,c2,A3,c3,A6,c6,A7,c7,A8,c8,hq,e0,e1,e2,e3,e4,e5,e6,e7,e8,e9,e10,e11,e12,hlc0,hcm0,hlc1,hcm1,hlc2,hcm2,hlc3,hcm3,hlc6,hcm6,hlc7,hcm7,hlc8,hcm8,g4,g5,g10,g11,g12,-,-,HR2,-,-,-,-⟩:=StoreAt.opn hs
 clear hs
 have hqn:¬q=w.heap.size:=by omega
 have hts:=hv.t
 unfold maxLen at hts
 simp only at hts
 cases hw:wellB ⟨13,n,i,t,lo,hi⟩
 case false =>
  exact rk79
 case true =>
  have HW:=hide hw
  have hn:=well_n hw (by omega)
  obtain⟨m,rfl⟩:=Int.eq_ofNat_of_zero_le hn
  have hIO:=hide (inB_obj (s:=(TStore.mk x0 x1 x2 x3 x4 x5 x6 x7 x8 x9 x10 x11 x12)) hw (by show kindI 13≠0;rw[kindI_13];decide))
  have hi0:=well_i hw (by omega)
  clear hw
  rcases Nat.lt_or_ge m x2.length with hlt | hge
  ·
   have hbw:Bel w w:=Bel.refl w
   (obtain⟨b1,o1,x1_0,x1_1,x1_2,x1_3,x1_4,A1_3,C1_3,A1_4,C1_4,hA1,hS1,hl1,hx1,hv1,g1_0,g1_1,g1_2,g1_3,g1_4,c1_0,c1_1,c1_2,c1_3,c1_4⟩:=TObject.at HR2.out m hlt;subst hA1;have HV1:=hide (Dat.HoldVals.bel hbw hv1);have hh1:=hbw.box b1 hl1;have hw1:=Nat.lt_of_lt_of_le hl1 (Bel.size hbw);replace c1_0:=(hh1 _).trans c1_0;replace c1_1:=(hh1 _).trans c1_1;replace c1_2:=(hh1 _).trans c1_2;replace c1_3:=(hh1 _).trans c1_3;replace c1_4:=(hh1 _).trans c1_4;have HX1:=hide hx1;have GR1_3:=hide g1_3;have GR1_4:=hide g1_4;clear hh1 hv1 hx1 hS1 g1_3 g1_4)
   have hne1:¬b1=w.heap.size:=by omega
   have hi1:(m:Int)<(x2.length:Int):=by omega
   have hll:=GR1_3.out.1
   have hlm:=GR1_3.out.2.1
   simp only[List.length_map]at hll
   unfold maxLen at hlm
   have HO:=hide (objIn_yes (s:=(TStore.mk x0 x1 x2 x3 x4 x5 x6 x7 x8 x9 x10 x11 x12)) (v:=⟨13,m,i,t,lo,hi⟩) (by simpa[TStore.objects_mk]using hlt) (show x2[(m:Int).toNat]=_ from HX1.out))
   have HB:=hide (hasB_yes (s:=(TStore.mk x0 x1 x2 x3 x4 x5 x6 x7 x8 x9 x10 x11 x12)) (n:=(m:Int)) (kd:=1) hn (by simpa[TStore.objects_mk]using hlt) (show x2[(m:Int).toNat]=_ from HX1.out))
   by_cases hk:x1_0=1
   ·
    subst hk
    have HH:=hide (show hasB (TStore.mk x0 x1 x2 x3 x4 x5 x6 x7 x8 x9 x10 x11 x12) m 1=true by rw[HB.out];simp[TObject.kind])
    by_cases hix:i<(x1_3.length:Int)
    ·
     have RR:=hide (show inB (TStore.mk x0 x1 x2 x3 x4 x5 x6 x7 x8 x9 x10 x11 x12) ⟨13,m,i,t,lo,hi⟩=true by rw[hIO.out,HO.out];simp only[TObject.kind,TObject.items,kindI_13];simp[hix])
     have di:decide (i<(x1_3.length:Int))=true:=by simp[hix]
     exact rk28
    ·
     have RR:=hide (show inB (TStore.mk x0 x1 x2 x3 x4 x5 x6 x7 x8 x9 x10 x11 x12) ⟨13,m,i,t,lo,hi⟩=false by rw[hIO.out,HO.out];simp only[TObject.kind,TObject.items,kindI_13];simp[hix])
     have di:decide (i<(x1_3.length:Int))=false:=by simp[hix]
     exact rk28
   ·
    have HH:=hide (show hasB (TStore.mk x0 x1 x2 x3 x4 x5 x6 x7 x8 x9 x10 x11 x12) m 1=false by rw[HB.out];simp[TObject.kind,hk])
    have RR:=hide (show inB (TStore.mk x0 x1 x2 x3 x4 x5 x6 x7 x8 x9 x10 x11 x12) ⟨13,m,i,t,lo,hi⟩=false by rw[hIO.out,HO.out];simp only[TObject.kind,TObject.items,kindI_13];simp[hk])
    clear hk
    exact rk28
  ·
   have RR:=hide (hIO.out.trans (objIn_no (by simpa[TStore.objects_mk]using hge)))
   have HH:=hide (hasB_no (s:=(TStore.mk x0 x1 x2 x3 x4 x5 x6 x7 x8 x9 x10 x11 x12)) (n:=(m:Int)) (kd:=1) (by simpa[TStore.objects_mk]using hge))
   have HQ:=hide (fun (wx:World) (hx:Bel w wx)=>(by have:=hasObject_q (TStore.mk x0 x1 x2 x3 x4 x5 x6 x7 x8 x9 x10 x11 x12) (m:Int) 1 S q wx (StoreAt.bel hx HSt.out);rw[HH.out]at this;exact this))
   go_enter Tryd.func30,Tryd.ntmps30
   exact rk154
set_option maxHeartbeats 2000000 in
theorem implIn_15 (n i:Int) (t:ByteArray) (lo hi:Int) (s:TStore):InC 30 s ⟨15,n,i,t,lo,hi⟩:=by
 intro S q w hs hv
 obtain⟨x0,x1,x2,x3,x4,x5,x6,x7,x8,x9,x10,x11,x12⟩:=s
 have HSt:=hide hs
 obtain⟨A0,c0,A1,c1,A2,c2,A3,c3,A6,c6,A7,c7,A8,c8,hq,e0,e1,e2,e3,e4,e5,e6,e7,e8,e9,e10,e11,e12,hlc0,hcm0,hlc1,hcm1,hlc2,hcm2,hlc3,hcm3,hlc6,hcm6,hlc7,hcm7,hlc8,hcm8,g4,g5,g10,g11,g12,-,-,HR2,-,-,-,-⟩:=StoreAt.opn hs
 clear hs
 have hqn:¬q=w.heap.size:=by omega
 have hts:=hv.t
 unfold maxLen at hts
 simp only at hts
 cases hw:wellB ⟨15,n,i,t,lo,hi⟩
 case false =>
  exact rk79
 case true =>
  have HW:=hide hw
  have hn:=well_n hw (by omega)
  have hIO:=hide ((inB_obj (s:=(TStore.mk x0 x1 x2 x3 x4 x5 x6 x7 x8 x9 x10 x11 x12)) hw (by show kindI 15≠0;rw[kindI_15];decide)).trans (objIn_has hn (by simp)))
  clear hw
  cases hh:hasB (TStore.mk x0 x1 x2 x3 x4 x5 x6 x7 x8 x9 x10 x11 x12) n 2
  ·
   have RR:=hide (show inB (TStore.mk x0 x1 x2 x3 x4 x5 x6 x7 x8 x9 x10 x11 x12) ⟨15,n,i,t,lo,hi⟩=false by rw[hIO.out];show hasB _ n (kindI 15)=_;rw[kindI_15];exact hh)
   exact rk2
  ·
   have RR:=hide (show inB (TStore.mk x0 x1 x2 x3 x4 x5 x6 x7 x8 x9 x10 x11 x12) ⟨15,n,i,t,lo,hi⟩=true by rw[hIO.out];show hasB _ n (kindI 15)=_;rw[kindI_15];exact hh)
   exact rk2
set_option maxHeartbeats 2000000 in
theorem implIn_16 (n i:Int) (t:ByteArray) (lo hi:Int) (s:TStore):InC 30 s ⟨16,n,i,t,lo,hi⟩:=by
 intro S q w hs hv
 obtain⟨x0,x1,x2,x3,x4,x5,x6,x7,x8,x9,x10,x11,x12⟩:=s
 have HSt:=hide hs
 obtain⟨A0,c0,A1,c1,A2,c2,A3,c3,A6,c6,A7,c7,A8,c8,hq,e0,e1,e2,e3,e4,e5,e6,e7,e8,e9,e10,e11,e12,hlc0,hcm0,hlc1,hcm1,hlc2,hcm2,hlc3,hcm3,hlc6,hcm6,hlc7,hcm7,hlc8,hcm8,g4,g5,g10,g11,g12,-,-,HR2,-,-,-,-⟩:=StoreAt.opn hs
 clear hs
 have hqn:¬q=w.heap.size:=by omega
 have hts:=hv.t
 unfold maxLen at hts
 simp only at hts
 cases hw:wellB ⟨16,n,i,t,lo,hi⟩
 case false =>
  exact rk79
 case true =>
  have HW:=hide hw
  have hn:=well_n hw (by omega)
  obtain⟨m,rfl⟩:=Int.eq_ofNat_of_zero_le hn
  have hIO:=hide (inB_obj (s:=(TStore.mk x0 x1 x2 x3 x4 x5 x6 x7 x8 x9 x10 x11 x12)) hw (by show kindI 16≠0;rw[kindI_16];decide))
  have hi0:=well_i hw (by omega)
  clear hw
  rcases Nat.lt_or_ge m x2.length with hlt | hge
  ·
   have hbw:Bel w w:=Bel.refl w
   (obtain⟨b1,o1,x1_0,x1_1,x1_2,x1_3,x1_4,A1_3,C1_3,A1_4,C1_4,hA1,hS1,hl1,hx1,hv1,g1_0,g1_1,g1_2,g1_3,g1_4,c1_0,c1_1,c1_2,c1_3,c1_4⟩:=TObject.at HR2.out m hlt;subst hA1;have HV1:=hide (Dat.HoldVals.bel hbw hv1);have hh1:=hbw.box b1 hl1;have hw1:=Nat.lt_of_lt_of_le hl1 (Bel.size hbw);replace c1_0:=(hh1 _).trans c1_0;replace c1_1:=(hh1 _).trans c1_1;replace c1_2:=(hh1 _).trans c1_2;replace c1_3:=(hh1 _).trans c1_3;replace c1_4:=(hh1 _).trans c1_4;have HX1:=hide hx1;have GR1_3:=hide g1_3;have GR1_4:=hide g1_4;clear hh1 hv1 hx1 hS1 g1_3 g1_4)
   have hne1:¬b1=w.heap.size:=by omega
   have hi1:(m:Int)<(x2.length:Int):=by omega
   have hll:=GR1_3.out.1
   have hlm:=GR1_3.out.2.1
   simp only[List.length_map]at hll
   unfold maxLen at hlm
   have HO:=hide (objIn_yes (s:=(TStore.mk x0 x1 x2 x3 x4 x5 x6 x7 x8 x9 x10 x11 x12)) (v:=⟨16,m,i,t,lo,hi⟩) (by simpa[TStore.objects_mk]using hlt) (show x2[(m:Int).toNat]=_ from HX1.out))
   have HB:=hide (hasB_yes (s:=(TStore.mk x0 x1 x2 x3 x4 x5 x6 x7 x8 x9 x10 x11 x12)) (n:=(m:Int)) (kd:=5) hn (by simpa[TStore.objects_mk]using hlt) (show x2[(m:Int).toNat]=_ from HX1.out))
   by_cases hk:x1_0=5
   ·
    subst hk
    have HH:=hide (show hasB (TStore.mk x0 x1 x2 x3 x4 x5 x6 x7 x8 x9 x10 x11 x12) m 5=true by rw[HB.out];simp[TObject.kind])
    by_cases hix:i<(x1_3.length:Int)
    ·
     have RR:=hide (show inB (TStore.mk x0 x1 x2 x3 x4 x5 x6 x7 x8 x9 x10 x11 x12) ⟨16,m,i,t,lo,hi⟩=true by rw[hIO.out,HO.out];simp only[TObject.kind,TObject.items,kindI_16];simp[hix])
     have di:decide (i<(x1_3.length:Int))=true:=by simp[hix]
     exact rk29
    ·
     have RR:=hide (show inB (TStore.mk x0 x1 x2 x3 x4 x5 x6 x7 x8 x9 x10 x11 x12) ⟨16,m,i,t,lo,hi⟩=false by rw[hIO.out,HO.out];simp only[TObject.kind,TObject.items,kindI_16];simp[hix])
     have di:decide (i<(x1_3.length:Int))=false:=by simp[hix]
     exact rk29
   ·
    have HH:=hide (show hasB (TStore.mk x0 x1 x2 x3 x4 x5 x6 x7 x8 x9 x10 x11 x12) m 5=false by rw[HB.out];simp[TObject.kind,hk])
    have RR:=hide (show inB (TStore.mk x0 x1 x2 x3 x4 x5 x6 x7 x8 x9 x10 x11 x12) ⟨16,m,i,t,lo,hi⟩=false by rw[hIO.out,HO.out];simp only[TObject.kind,TObject.items,kindI_16];simp[hk])
    clear hk
    exact rk29
  ·
   have RR:=hide (hIO.out.trans (objIn_no (by simpa[TStore.objects_mk]using hge)))
   have HH:=hide (hasB_no (s:=(TStore.mk x0 x1 x2 x3 x4 x5 x6 x7 x8 x9 x10 x11 x12)) (n:=(m:Int)) (kd:=5) (by simpa[TStore.objects_mk]using hge))
   have HQ:=hide (fun (wx:World) (hx:Bel w wx)=>(by have:=hasObject_q (TStore.mk x0 x1 x2 x3 x4 x5 x6 x7 x8 x9 x10 x11 x12) (m:Int) 5 S q wx (StoreAt.bel hx HSt.out);rw[HH.out]at this;exact this))
   go_enter Tryd.func30,Tryd.ntmps30
   exact rk154
set_option maxHeartbeats 2000000 in
theorem implIn_17 (n i:Int) (t:ByteArray) (lo hi:Int) (s:TStore):InC 30 s ⟨17,n,i,t,lo,hi⟩:=by
 intro S q w hs hv
 obtain⟨x0,x1,x2,x3,x4,x5,x6,x7,x8,x9,x10,x11,x12⟩:=s
 have HSt:=hide hs
 obtain⟨A0,c0,A1,c1,A2,c2,A3,c3,A6,c6,A7,c7,A8,c8,hq,e0,e1,e2,e3,e4,e5,e6,e7,e8,e9,e10,e11,e12,hlc0,hcm0,hlc1,hcm1,hlc2,hcm2,hlc3,hcm3,hlc6,hcm6,hlc7,hcm7,hlc8,hcm8,g4,g5,g10,g11,g12,-,-,HR2,-,-,-,-⟩:=StoreAt.opn hs
 clear hs
 have hqn:¬q=w.heap.size:=by omega
 have hts:=hv.t
 unfold maxLen at hts
 simp only at hts
 cases hw:wellB ⟨17,n,i,t,lo,hi⟩
 case false =>
  exact rk79
 case true =>
  have HW:=hide hw
  have hn:=well_n hw (by omega)
  have hIO:=hide ((inB_obj (s:=(TStore.mk x0 x1 x2 x3 x4 x5 x6 x7 x8 x9 x10 x11 x12)) hw (by show kindI 17≠0;rw[kindI_17];decide)).trans (objIn_has hn (by simp)))
  clear hw
  cases hh:hasB (TStore.mk x0 x1 x2 x3 x4 x5 x6 x7 x8 x9 x10 x11 x12) n 8
  ·
   have RR:=hide (show inB (TStore.mk x0 x1 x2 x3 x4 x5 x6 x7 x8 x9 x10 x11 x12) ⟨17,n,i,t,lo,hi⟩=false by rw[hIO.out];show hasB _ n (kindI 17)=_;rw[kindI_17];exact hh)
   exact rk2
  ·
   have RR:=hide (show inB (TStore.mk x0 x1 x2 x3 x4 x5 x6 x7 x8 x9 x10 x11 x12) ⟨17,n,i,t,lo,hi⟩=true by rw[hIO.out];show hasB _ n (kindI 17)=_;rw[kindI_17];exact hh)
   exact rk2
set_option maxHeartbeats 2000000 in
theorem implIn_19 (n i:Int) (t:ByteArray) (lo hi:Int) (s:TStore):InC 30 s ⟨19,n,i,t,lo,hi⟩:=by
 intro S q w hs hv
 obtain⟨x0,x1,x2,x3,x4,x5,x6,x7,x8,x9,x10,x11,x12⟩:=s
 have HSt:=hide hs
 obtain⟨A0,c0,A1,c1,A2,c2,A3,c3,A6,c6,A7,c7,A8,c8,hq,e0,e1,e2,e3,e4,e5,e6,e7,e8,e9,e10,e11,e12,hlc0,hcm0,hlc1,hcm1,hlc2,hcm2,hlc3,hcm3,hlc6,hcm6,hlc7,hcm7,hlc8,hcm8,g4,g5,g10,g11,g12,-,-,HR2,-,-,-,-⟩:=StoreAt.opn hs
 clear hs
 have hqn:¬q=w.heap.size:=by omega
 have hts:=hv.t
 unfold maxLen at hts
 simp only at hts
 cases hw:wellB ⟨19,n,i,t,lo,hi⟩
 case false =>
  exact rk79
 case true =>
  have HW:=hide hw
  have hn:=well_n hw (by omega)
  have hIO:=hide ((inB_obj (s:=(TStore.mk x0 x1 x2 x3 x4 x5 x6 x7 x8 x9 x10 x11 x12)) hw (by show kindI 19≠0;rw[kindI_19];decide)).trans (objIn_has hn (by simp)))
  clear hw
  cases hh:hasB (TStore.mk x0 x1 x2 x3 x4 x5 x6 x7 x8 x9 x10 x11 x12) n 1
  ·
   have RR:=hide (show inB (TStore.mk x0 x1 x2 x3 x4 x5 x6 x7 x8 x9 x10 x11 x12) ⟨19,n,i,t,lo,hi⟩=false by rw[hIO.out];show hasB _ n (kindI 19)=_;rw[kindI_19];exact hh)
   exact rk2
  ·
   have RR:=hide (show inB (TStore.mk x0 x1 x2 x3 x4 x5 x6 x7 x8 x9 x10 x11 x12) ⟨19,n,i,t,lo,hi⟩=true by rw[hIO.out];show hasB _ n (kindI 19)=_;rw[kindI_19];exact hh)
   exact rk2
set_option maxHeartbeats 2000000 in
theorem implIn_20 (n i:Int) (t:ByteArray) (lo hi:Int) (s:TStore):InC 30 s ⟨20,n,i,t,lo,hi⟩:=by
 intro S q w hs hv
 obtain⟨x0,x1,x2,x3,x4,x5,x6,x7,x8,x9,x10,x11,x12⟩:=s
 have HSt:=hide hs
 obtain⟨A0,c0,A1,c1,A2,c2,A3,c3,A6,c6,A7,c7,A8,c8,hq,e0,e1,e2,e3,e4,e5,e6,e7,e8,e9,e10,e11,e12,hlc0,hcm0,hlc1,hcm1,hlc2,hcm2,hlc3,hcm3,hlc6,hcm6,hlc7,hcm7,hlc8,hcm8,g4,g5,g10,g11,g12,-,-,HR2,-,-,-,-⟩:=StoreAt.opn hs
 clear hs
 have hqn:¬q=w.heap.size:=by omega
 have hts:=hv.t
 unfold maxLen at hts
 simp only at hts
 cases hw:wellB ⟨20,n,i,t,lo,hi⟩
 case false =>
  exact rk79
 case true =>
  have HW:=hide hw
  have hn:=well_n hw (by omega)
  have hIO:=hide ((inB_obj (s:=(TStore.mk x0 x1 x2 x3 x4 x5 x6 x7 x8 x9 x10 x11 x12)) hw (by show kindI 20≠0;rw[kindI_20];decide)).trans (objIn_has hn (by simp)))
  clear hw
  cases hh:hasB (TStore.mk x0 x1 x2 x3 x4 x5 x6 x7 x8 x9 x10 x11 x12) n 9
  ·
   have RR:=hide (show inB (TStore.mk x0 x1 x2 x3 x4 x5 x6 x7 x8 x9 x10 x11 x12) ⟨20,n,i,t,lo,hi⟩=false by rw[hIO.out];show hasB _ n (kindI 20)=_;rw[kindI_20];exact hh)
   exact rk2
  ·
   have RR:=hide (show inB (TStore.mk x0 x1 x2 x3 x4 x5 x6 x7 x8 x9 x10 x11 x12) ⟨20,n,i,t,lo,hi⟩=true by rw[hIO.out];show hasB _ n (kindI 20)=_;rw[kindI_20];exact hh)
   exact rk2
end Go.Proofs.YtoikhhnmbbbjjaaDoor
