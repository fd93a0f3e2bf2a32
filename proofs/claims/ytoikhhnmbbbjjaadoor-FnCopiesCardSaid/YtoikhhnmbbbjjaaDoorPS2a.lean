/- The reference: is a value in a store? -/
import Derived.Test.YtoikhhnmbbbjjaaDoorPr
import Derived.Test.YtoikhhnmbbbjjaaDoorPS2
namespace Go.Proofs.YtoikhhnmbbbjjaaDoor
set_option linter.unusedVariables false
set_option linter.unusedSimpArgs false
set_option maxRecDepth 100000
open Go.RowKit
--%quiet
set_option maxHeartbeats 2000000 in
theorem specIn_4 (n i:Int) (t:ByteArray) (lo hi:Int) (s:TStore):InC 19 s ⟨4,n,i,t,lo,hi⟩:=by
 intro S q w hs hv
 obtain⟨x0,x1,x2,x3,x4,x5,x6,x7,x8,x9,x10,x11,x12⟩:=s
 have HSt:=hide hs
 obtain⟨A0,c0,A1,c1,A2,c2,A3,c3,A6,c6,A7,c7,A8,c8,hq,e0,e1,e2,e3,e4,e5,e6,e7,e8,e9,e10,e11,e12,hlc0,hcm0,hlc1,hcm1,hlc2,hcm2,hlc3,hcm3,hlc6,hcm6,hlc7,hcm7,hlc8,hcm8,g4,g5,g10,g11,g12,-,-,HR2,-,-,-,-⟩:=StoreAt.opn hs
 clear hs
 have hqn:¬q=w.heap.size:=by omega
 have hts:=hv.t
 unfold maxLen at hts
 simp only at hts
 cases hw:wellB ⟨4,n,i,t,lo,hi⟩
 case false =>
  have RR:=hide (inB_bad (s:=(TStore.mk x0 x1 x2 x3 x4 x5 x6 x7 x8 x9 x10 x11 x12)) hw)
  have HW:=hide hw
  clear hw
  exact rk66
 case true =>
  have HW:=hide hw
  have hn:=well_n hw (by omega)
  obtain⟨m,rfl⟩:=Int.eq_ofNat_of_zero_le hn
  have hIO:=hide (inB_obj (s:=(TStore.mk x0 x1 x2 x3 x4 x5 x6 x7 x8 x9 x10 x11 x12)) hw (by show kindI 4≠0;rw[kindI_4];decide))
  clear hw
  rcases Nat.lt_or_ge m x2.length with hlt | hge
  ·
   have hbw:Bel w w:=Bel.refl w
   (obtain⟨b1,o1,x1_0,x1_1,x1_2,x1_3,x1_4,A1_3,C1_3,A1_4,C1_4,hA1,hS1,hl1,hx1,hv1,g1_0,g1_1,g1_2,g1_3,g1_4,c1_0,c1_1,c1_2,c1_3,c1_4⟩:=TObject.at HR2.out m hlt;subst hA1;have HV1:=hide (Dat.HoldVals.bel hbw hv1);have hh1:=hbw.box b1 hl1;have hw1:=Nat.lt_of_lt_of_le hl1 (Bel.size hbw);replace c1_0:=(hh1 _).trans c1_0;replace c1_1:=(hh1 _).trans c1_1;replace c1_2:=(hh1 _).trans c1_2;replace c1_3:=(hh1 _).trans c1_3;replace c1_4:=(hh1 _).trans c1_4;have HX1:=hide hx1;have GR1_3:=hide g1_3;have GR1_4:=hide g1_4;clear hh1 hv1 hx1 hS1 g1_3 g1_4)
   have hne1:¬b1=w.heap.size:=by omega
   have hi1:(m:Int)<(x2.length:Int):=by omega
   have hll:=GR1_3.out.1
   have hlm:=GR1_3.out.2.1
   simp only[List.length_map]at hll
   unfold maxLen at hlm
   have HO:=hide (objIn_yes (s:=(TStore.mk x0 x1 x2 x3 x4 x5 x6 x7 x8 x9 x10 x11 x12)) (v:=⟨4,m,i,t,lo,hi⟩) (by simpa[TStore.objects_mk]using hlt) (show x2[(m:Int).toNat]=_ from HX1.out))
   by_cases hk:x1_0=2
   ·
    subst hk
    have RR:=hide (show inB (TStore.mk x0 x1 x2 x3 x4 x5 x6 x7 x8 x9 x10 x11 x12) ⟨4,m,i,t,lo,hi⟩=true by rw[hIO.out,HO.out];simp only[TObject.kind,TObject.items,kindI_4];simp)
    exact rk50
   ·
    have fk:(x1_0 != 2)=true:=by simp[hk]
    have RR:=hide (show inB (TStore.mk x0 x1 x2 x3 x4 x5 x6 x7 x8 x9 x10 x11 x12) ⟨4,m,i,t,lo,hi⟩=false by rw[hIO.out,HO.out];simp only[TObject.kind,TObject.items,kindI_4];simp[hk])
    clear hk
    exact rk50
  ·
   have RR:=hide (hIO.out.trans (objIn_no (by simpa[TStore.objects_mk]using hge)))
   have dd:decide (x2.length≤m)=true:=by simp[hge]
   exact rk66
set_option maxHeartbeats 2000000 in
theorem specIn_5 (n i:Int) (t:ByteArray) (lo hi:Int) (s:TStore):InC 19 s ⟨5,n,i,t,lo,hi⟩:=by
 intro S q w hs hv
 obtain⟨x0,x1,x2,x3,x4,x5,x6,x7,x8,x9,x10,x11,x12⟩:=s
 have HSt:=hide hs
 obtain⟨A0,c0,A1,c1,A2,c2,A3,c3,A6,c6,A7,c7,A8,c8,hq,e0,e1,e2,e3,e4,e5,e6,e7,e8,e9,e10,e11,e12,hlc0,hcm0,hlc1,hcm1,hlc2,hcm2,hlc3,hcm3,hlc6,hcm6,hlc7,hcm7,hlc8,hcm8,g4,g5,g10,g11,g12,-,-,HR2,-,-,-,-⟩:=StoreAt.opn hs
 clear hs
 have hqn:¬q=w.heap.size:=by omega
 have hts:=hv.t
 unfold maxLen at hts
 simp only at hts
 cases hw:wellB ⟨5,n,i,t,lo,hi⟩
 case false =>
  have RR:=hide (inB_bad (s:=(TStore.mk x0 x1 x2 x3 x4 x5 x6 x7 x8 x9 x10 x11 x12)) hw)
  have HW:=hide hw
  clear hw
  exact rk67
 case true =>
  have HW:=hide hw
  have hn:=well_n hw (by omega)
  obtain⟨m,rfl⟩:=Int.eq_ofNat_of_zero_le hn
  have hIO:=hide (inB_obj (s:=(TStore.mk x0 x1 x2 x3 x4 x5 x6 x7 x8 x9 x10 x11 x12)) hw (by show kindI 5≠0;rw[kindI_5];decide))
  clear hw
  rcases Nat.lt_or_ge m x2.length with hlt | hge
  ·
   have hbw:Bel w w:=Bel.refl w
   (obtain⟨b1,o1,x1_0,x1_1,x1_2,x1_3,x1_4,A1_3,C1_3,A1_4,C1_4,hA1,hS1,hl1,hx1,hv1,g1_0,g1_1,g1_2,g1_3,g1_4,c1_0,c1_1,c1_2,c1_3,c1_4⟩:=TObject.at HR2.out m hlt;subst hA1;have HV1:=hide (Dat.HoldVals.bel hbw hv1);have hh1:=hbw.box b1 hl1;have hw1:=Nat.lt_of_lt_of_le hl1 (Bel.size hbw);replace c1_0:=(hh1 _).trans c1_0;replace c1_1:=(hh1 _).trans c1_1;replace c1_2:=(hh1 _).trans c1_2;replace c1_3:=(hh1 _).trans c1_3;replace c1_4:=(hh1 _).trans c1_4;have HX1:=hide hx1;have GR1_3:=hide g1_3;have GR1_4:=hide g1_4;clear hh1 hv1 hx1 hS1 g1_3 g1_4)
   have hne1:¬b1=w.heap.size:=by omega
   have hi1:(m:Int)<(x2.length:Int):=by omega
   have hll:=GR1_3.out.1
   have hlm:=GR1_3.out.2.1
   simp only[List.length_map]at hll
   unfold maxLen at hlm
   have HO:=hide (objIn_yes (s:=(TStore.mk x0 x1 x2 x3 x4 x5 x6 x7 x8 x9 x10 x11 x12)) (v:=⟨5,m,i,t,lo,hi⟩) (by simpa[TStore.objects_mk]using hlt) (show x2[(m:Int).toNat]=_ from HX1.out))
   by_cases hk:x1_0=3
   ·
    subst hk
    have RR:=hide (show inB (TStore.mk x0 x1 x2 x3 x4 x5 x6 x7 x8 x9 x10 x11 x12) ⟨5,m,i,t,lo,hi⟩=true by rw[hIO.out,HO.out];simp only[TObject.kind,TObject.items,kindI_5];simp)
    exact rk51
   ·
    have fk:(x1_0 != 3)=true:=by simp[hk]
    have RR:=hide (show inB (TStore.mk x0 x1 x2 x3 x4 x5 x6 x7 x8 x9 x10 x11 x12) ⟨5,m,i,t,lo,hi⟩=false by rw[hIO.out,HO.out];simp only[TObject.kind,TObject.items,kindI_5];simp[hk])
    clear hk
    exact rk51
  ·
   have RR:=hide (hIO.out.trans (objIn_no (by simpa[TStore.objects_mk]using hge)))
   have dd:decide (x2.length≤m)=true:=by simp[hge]
   exact rk67
set_option maxHeartbeats 2000000 in
theorem specIn_6 (n i:Int) (t:ByteArray) (lo hi:Int) (s:TStore):InC 19 s ⟨6,n,i,t,lo,hi⟩:=by
 intro S q w hs hv
 obtain⟨x0,x1,x2,x3,x4,x5,x6,x7,x8,x9,x10,x11,x12⟩:=s
 have HSt:=hide hs
 obtain⟨A0,c0,A1,c1,A2,c2,A3,c3,A6,c6,A7,c7,A8,c8,hq,e0,e1,e2,e3,e4,e5,e6,e7,e8,e9,e10,e11,e12,hlc0,hcm0,hlc1,hcm1,hlc2,hcm2,hlc3,hcm3,hlc6,hcm6,hlc7,hcm7,hlc8,hcm8,g4,g5,g10,g11,g12,-,-,HR2,-,-,-,-⟩:=StoreAt.opn hs
 clear hs
 have hqn:¬q=w.heap.size:=by omega
 have hts:=hv.t
 unfold maxLen at hts
 simp only at hts
 cases hw:wellB ⟨6,n,i,t,lo,hi⟩
 case false =>
  have RR:=hide (inB_bad (s:=(TStore.mk x0 x1 x2 x3 x4 x5 x6 x7 x8 x9 x10 x11 x12)) hw)
  have HW:=hide hw
  clear hw
  exact rk68
 case true =>
  have HW:=hide hw
  have hn:=well_n hw (by omega)
  obtain⟨m,rfl⟩:=Int.eq_ofNat_of_zero_le hn
  have hIO:=hide (inB_obj (s:=(TStore.mk x0 x1 x2 x3 x4 x5 x6 x7 x8 x9 x10 x11 x12)) hw (by show kindI 6≠0;rw[kindI_6];decide))
  clear hw
  rcases Nat.lt_or_ge m x2.length with hlt | hge
  ·
   have hbw:Bel w w:=Bel.refl w
   (obtain⟨b1,o1,x1_0,x1_1,x1_2,x1_3,x1_4,A1_3,C1_3,A1_4,C1_4,hA1,hS1,hl1,hx1,hv1,g1_0,g1_1,g1_2,g1_3,g1_4,c1_0,c1_1,c1_2,c1_3,c1_4⟩:=TObject.at HR2.out m hlt;subst hA1;have HV1:=hide (Dat.HoldVals.bel hbw hv1);have hh1:=hbw.box b1 hl1;have hw1:=Nat.lt_of_lt_of_le hl1 (Bel.size hbw);replace c1_0:=(hh1 _).trans c1_0;replace c1_1:=(hh1 _).trans c1_1;replace c1_2:=(hh1 _).trans c1_2;replace c1_3:=(hh1 _).trans c1_3;replace c1_4:=(hh1 _).trans c1_4;have HX1:=hide hx1;have GR1_3:=hide g1_3;have GR1_4:=hide g1_4;clear hh1 hv1 hx1 hS1 g1_3 g1_4)
   have hne1:¬b1=w.heap.size:=by omega
   have hi1:(m:Int)<(x2.length:Int):=by omega
   have hll:=GR1_3.out.1
   have hlm:=GR1_3.out.2.1
   simp only[List.length_map]at hll
   unfold maxLen at hlm
   have HO:=hide (objIn_yes (s:=(TStore.mk x0 x1 x2 x3 x4 x5 x6 x7 x8 x9 x10 x11 x12)) (v:=⟨6,m,i,t,lo,hi⟩) (by simpa[TStore.objects_mk]using hlt) (show x2[(m:Int).toNat]=_ from HX1.out))
   by_cases hk:x1_0=4
   ·
    subst hk
    have RR:=hide (show inB (TStore.mk x0 x1 x2 x3 x4 x5 x6 x7 x8 x9 x10 x11 x12) ⟨6,m,i,t,lo,hi⟩=true by rw[hIO.out,HO.out];simp only[TObject.kind,TObject.items,kindI_6];simp)
    exact rk52
   ·
    have fk:(x1_0 != 4)=true:=by simp[hk]
    have RR:=hide (show inB (TStore.mk x0 x1 x2 x3 x4 x5 x6 x7 x8 x9 x10 x11 x12) ⟨6,m,i,t,lo,hi⟩=false by rw[hIO.out,HO.out];simp only[TObject.kind,TObject.items,kindI_6];simp[hk])
    clear hk
    exact rk52
  ·
   have RR:=hide (hIO.out.trans (objIn_no (by simpa[TStore.objects_mk]using hge)))
   have dd:decide (x2.length≤m)=true:=by simp[hge]
   exact rk68
set_option maxHeartbeats 2000000 in
theorem specIn_7 (n i:Int) (t:ByteArray) (lo hi:Int) (s:TStore):InC 19 s ⟨7,n,i,t,lo,hi⟩:=by
 intro S q w hs hv
 obtain⟨x0,x1,x2,x3,x4,x5,x6,x7,x8,x9,x10,x11,x12⟩:=s
 have HSt:=hide hs
 obtain⟨A0,c0,A1,c1,A2,c2,A3,c3,A6,c6,A7,c7,A8,c8,hq,e0,e1,e2,e3,e4,e5,e6,e7,e8,e9,e10,e11,e12,hlc0,hcm0,hlc1,hcm1,hlc2,hcm2,hlc3,hcm3,hlc6,hcm6,hlc7,hcm7,hlc8,hcm8,g4,g5,g10,g11,g12,-,-,HR2,-,-,-,-⟩:=StoreAt.opn hs
 clear hs
 have hqn:¬q=w.heap.size:=by omega
 have hts:=hv.t
 unfold maxLen at hts
 simp only at hts
 cases hw:wellB ⟨7,n,i,t,lo,hi⟩
 case false =>
  have RR:=hide (inB_bad (s:=(TStore.mk x0 x1 x2 x3 x4 x5 x6 x7 x8 x9 x10 x11 x12)) hw)
  have HW:=hide hw
  clear hw
  exact rk69
 case true =>
  have HW:=hide hw
  have hn:=well_n hw (by omega)
  obtain⟨m,rfl⟩:=Int.eq_ofNat_of_zero_le hn
  have hIO:=hide (inB_obj (s:=(TStore.mk x0 x1 x2 x3 x4 x5 x6 x7 x8 x9 x10 x11 x12)) hw (by show kindI 7≠0;rw[kindI_7];decide))
  clear hw
  rcases Nat.lt_or_ge m x2.length with hlt | hge
  ·
   have hbw:Bel w w:=Bel.refl w
   (obtain⟨b1,o1,x1_0,x1_1,x1_2,x1_3,x1_4,A1_3,C1_3,A1_4,C1_4,hA1,hS1,hl1,hx1,hv1,g1_0,g1_1,g1_2,g1_3,g1_4,c1_0,c1_1,c1_2,c1_3,c1_4⟩:=TObject.at HR2.out m hlt;subst hA1;have HV1:=hide (Dat.HoldVals.bel hbw hv1);have hh1:=hbw.box b1 hl1;have hw1:=Nat.lt_of_lt_of_le hl1 (Bel.size hbw);replace c1_0:=(hh1 _).trans c1_0;replace c1_1:=(hh1 _).trans c1_1;replace c1_2:=(hh1 _).trans c1_2;replace c1_3:=(hh1 _).trans c1_3;replace c1_4:=(hh1 _).trans c1_4;have HX1:=hide hx1;have GR1_3:=hide g1_3;have GR1_4:=hide g1_4;clear hh1 hv1 hx1 hS1 g1_3 g1_4)
   have hne1:¬b1=w.heap.size:=by omega
   have hi1:(m:Int)<(x2.length:Int):=by omega
   have hll:=GR1_3.out.1
   have hlm:=GR1_3.out.2.1
   simp only[List.length_map]at hll
   unfold maxLen at hlm
   have HO:=hide (objIn_yes (s:=(TStore.mk x0 x1 x2 x3 x4 x5 x6 x7 x8 x9 x10 x11 x12)) (v:=⟨7,m,i,t,lo,hi⟩) (by simpa[TStore.objects_mk]using hlt) (show x2[(m:Int).toNat]=_ from HX1.out))
   by_cases hk:x1_0=5
   ·
    subst hk
    have RR:=hide (show inB (TStore.mk x0 x1 x2 x3 x4 x5 x6 x7 x8 x9 x10 x11 x12) ⟨7,m,i,t,lo,hi⟩=true by rw[hIO.out,HO.out];simp only[TObject.kind,TObject.items,kindI_7];simp)
    exact rk53
   ·
    have fk:(x1_0 != 5)=true:=by simp[hk]
    have RR:=hide (show inB (TStore.mk x0 x1 x2 x3 x4 x5 x6 x7 x8 x9 x10 x11 x12) ⟨7,m,i,t,lo,hi⟩=false by rw[hIO.out,HO.out];simp only[TObject.kind,TObject.items,kindI_7];simp[hk])
    clear hk
    exact rk53
  ·
   have RR:=hide (hIO.out.trans (objIn_no (by simpa[TStore.objects_mk]using hge)))
   have dd:decide (x2.length≤m)=true:=by simp[hge]
   exact rk69
end Go.Proofs.YtoikhhnmbbbjjaaDoor
