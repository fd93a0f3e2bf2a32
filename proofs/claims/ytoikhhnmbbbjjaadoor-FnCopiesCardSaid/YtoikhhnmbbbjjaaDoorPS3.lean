/- The program: is a value in a store? -/
import Derived.Test.YtoikhhnmbbbjjaaDoorPr
import Derived.Test.YtoikhhnmbbbjjaaDoorPS2
import Derived.Test.YtoikhhnmbbbjjaaDoorPA7b
namespace Go.Proofs.YtoikhhnmbbbjjaaDoor
set_option linter.unusedVariables false
set_option linter.unusedSimpArgs false
set_option maxRecDepth 100000
open Go.RowKit
--%quiet
def DrewB (b:Bool) (w:World):Ending→World→Prop:=fun e w'=>e=.returned (.bool b)∧∃m,w'=w.drewN m
set_option maxHeartbeats 1000000 in
theorem hasObject_q (s:TStore) (n kd:Int) (S:Nat→Prop) (q:Nat) (w:World) (hs:StoreAt w S q s) :
  Calls Tryd.prog 22 #[.pointer (some ⟨q,0,none⟩),.int .i64 n,.int .i64 kd] w (DrewB (hasB s n kd) w):=by
 obtain⟨x0,x1,x2,x3,x4,x5,x6,x7,x8,x9,x10,x11,x12⟩:=s
 have HSt:=hide hs
 obtain⟨A0,c0,A1,c1,A2,c2,A3,c3,A6,c6,A7,c7,A8,c8,hq,e0,e1,e2,e3,e4,e5,e6,e7,e8,e9,e10,e11,e12,hlc0,hcm0,hlc1,hcm1,hlc2,hcm2,hlc3,hcm3,hlc6,hcm6,hlc7,hcm7,hlc8,hcm8,g4,g5,g10,g11,g12,-,-,HR2,-,-,-,-⟩:=StoreAt.opn hs
 clear hs
 have hqn:¬q=w.heap.size:=by omega
 rcases Int.lt_or_le n 0 with hn | hn
 ·
  have RR:=hide (show hasB (TStore.mk x0 x1 x2 x3 x4 x5 x6 x7 x8 x9 x10 x11 x12) n kd=false by unfold hasB;rw[decide_eq_false (by omega)];rfl)
  exact rk43
 obtain⟨m,rfl⟩:=Int.eq_ofNat_of_zero_le hn
 rcases Nat.lt_or_ge m x2.length with hlt | hge
 ·
  have hbw:Bel w w:=Bel.refl w
  (obtain⟨b1,o1,x1_0,x1_1,x1_2,x1_3,x1_4,A1_3,C1_3,A1_4,C1_4,hA1,hS1,hl1,hx1,hv1,g1_0,g1_1,g1_2,g1_3,g1_4,c1_0,c1_1,c1_2,c1_3,c1_4⟩:=TObject.at HR2.out m hlt;subst hA1;have HV1:=hide (Dat.HoldVals.bel hbw hv1);have hh1:=hbw.box b1 hl1;have hw1:=Nat.lt_of_lt_of_le hl1 (Bel.size hbw);replace c1_0:=(hh1 _).trans c1_0;replace c1_1:=(hh1 _).trans c1_1;replace c1_2:=(hh1 _).trans c1_2;replace c1_3:=(hh1 _).trans c1_3;replace c1_4:=(hh1 _).trans c1_4;have HX1:=hide hx1;have GR1_3:=hide g1_3;have GR1_4:=hide g1_4;clear hh1 hv1 hx1 hS1 g1_3 g1_4)
  have HO:=hide (hasB_yes (s:=(TStore.mk x0 x1 x2 x3 x4 x5 x6 x7 x8 x9 x10 x11 x12)) (n:=(m:Int)) (kd:=kd) hn (by simpa[TStore.objects_mk]using hlt) (show x2[(m:Int).toNat]=_ from HX1.out))
  by_cases hk:x1_0=kd
  ·
   have fk:(x1_0==kd)=true:=by simp[hk]
   have RR:=hide (show hasB (TStore.mk x0 x1 x2 x3 x4 x5 x6 x7 x8 x9 x10 x11 x12) m kd=true by rw[HO.out];simp[TObject.kind,hk])
   clear hk
   exact rk43
  ·
   have fk:(x1_0==kd)=false:=by simp[hk]
   have RR:=hide (show hasB (TStore.mk x0 x1 x2 x3 x4 x5 x6 x7 x8 x9 x10 x11 x12) m kd=false by rw[HO.out];simp[TObject.kind,hk])
   clear hk
   exact rk43
 ·
  have RR:=hide (hasB_no (s:=(TStore.mk x0 x1 x2 x3 x4 x5 x6 x7 x8 x9 x10 x11 x12)) (n:=(m:Int)) (kd:=kd) (by simpa[TStore.objects_mk]using hge))
  have dd:decide (m<x2.length)=false:=by simp;omega
  exact rk43
theorem hasObject_any (s:TStore) (n kd:Int) (S:Nat→Prop) (q:Nat) (w:World) (hs:StoreAt w S q s) :
  Calls Tryd.prog 22 #[.pointer (some ⟨q,0,none⟩),.int .i64 n,.int .i64 kd] w fun e w'=>e=.returned (.bool (hasB s n kd))∧Bel w w' :=
 (hasObject_q s n kd S q w hs).mono fun _ _ ⟨h,m,hm⟩=>⟨h,hm▸Bel.drewN (Bel.refl w) m⟩
set_option maxHeartbeats 2000000 in
theorem implIn_0 (n i:Int) (t:ByteArray) (lo hi:Int) (s:TStore):InC 30 s ⟨0,n,i,t,lo,hi⟩:=by
 intro S q w hs hv
 obtain⟨x0,x1,x2,x3,x4,x5,x6,x7,x8,x9,x10,x11,x12⟩:=s
 have HSt:=hide hs
 obtain⟨A0,c0,A1,c1,A2,c2,A3,c3,A6,c6,A7,c7,A8,c8,hq,e0,e1,e2,e3,e4,e5,e6,e7,e8,e9,e10,e11,e12,hlc0,hcm0,hlc1,hcm1,hlc2,hcm2,hlc3,hcm3,hlc6,hcm6,hlc7,hcm7,hlc8,hcm8,g4,g5,g10,g11,g12,-,-,-,-,-,-,-⟩:=StoreAt.opn hs
 clear hs
 have hqn:¬q=w.heap.size:=by omega
 have hts:=hv.t
 unfold maxLen at hts
 simp only at hts
 cases hw:wellB ⟨0,n,i,t,lo,hi⟩
 case false =>
  exact rk79
 case true =>
  have HW:=hide hw
  have RR:=hide (show inB (TStore.mk x0 x1 x2 x3 x4 x5 x6 x7 x8 x9 x10 x11 x12) ⟨0,n,i,t,lo,hi⟩=true by unfold inB;rw[hw,if_neg (show ¬(kindI 0≠0) by rw[kindI_0];simp)];simp)
  exact rk1
set_option maxHeartbeats 2000000 in
theorem implIn_1 (n i:Int) (t:ByteArray) (lo hi:Int) (s:TStore):InC 30 s ⟨1,n,i,t,lo,hi⟩:=by
 intro S q w hs hv
 obtain⟨x0,x1,x2,x3,x4,x5,x6,x7,x8,x9,x10,x11,x12⟩:=s
 have HSt:=hide hs
 obtain⟨A0,c0,A1,c1,A2,c2,A3,c3,A6,c6,A7,c7,A8,c8,hq,e0,e1,e2,e3,e4,e5,e6,e7,e8,e9,e10,e11,e12,hlc0,hcm0,hlc1,hcm1,hlc2,hcm2,hlc3,hcm3,hlc6,hcm6,hlc7,hcm7,hlc8,hcm8,g4,g5,g10,g11,g12,-,-,-,-,-,-,-⟩:=StoreAt.opn hs
 clear hs
 have hqn:¬q=w.heap.size:=by omega
 have hts:=hv.t
 unfold maxLen at hts
 simp only at hts
 cases hw:wellB ⟨1,n,i,t,lo,hi⟩
 case false =>
  exact rk79
 case true =>
  have HW:=hide hw
  have RR:=hide (show inB (TStore.mk x0 x1 x2 x3 x4 x5 x6 x7 x8 x9 x10 x11 x12) ⟨1,n,i,t,lo,hi⟩=true by unfold inB;rw[hw,if_neg (show ¬(kindI 1≠0) by rw[kindI_1];simp)];simp)
  exact rk1
set_option maxHeartbeats 2000000 in
theorem implIn_2 (n i:Int) (t:ByteArray) (lo hi:Int) (s:TStore):InC 30 s ⟨2,n,i,t,lo,hi⟩:=by
 intro S q w hs hv
 obtain⟨x0,x1,x2,x3,x4,x5,x6,x7,x8,x9,x10,x11,x12⟩:=s
 have HSt:=hide hs
 obtain⟨A0,c0,A1,c1,A2,c2,A3,c3,A6,c6,A7,c7,A8,c8,hq,e0,e1,e2,e3,e4,e5,e6,e7,e8,e9,e10,e11,e12,hlc0,hcm0,hlc1,hcm1,hlc2,hcm2,hlc3,hcm3,hlc6,hcm6,hlc7,hcm7,hlc8,hcm8,g4,g5,g10,g11,g12,-,-,-,-,-,-,-⟩:=StoreAt.opn hs
 clear hs
 have hqn:¬q=w.heap.size:=by omega
 have hts:=hv.t
 unfold maxLen at hts
 simp only at hts
 cases hw:wellB ⟨2,n,i,t,lo,hi⟩
 case false =>
  exact rk79
 case true =>
  have HW:=hide hw
  have RR:=hide (show inB (TStore.mk x0 x1 x2 x3 x4 x5 x6 x7 x8 x9 x10 x11 x12) ⟨2,n,i,t,lo,hi⟩=true by unfold inB;rw[hw,if_neg (show ¬(kindI 2≠0) by rw[kindI_2];simp)];simp)
  exact rk1
set_option maxHeartbeats 2000000 in
theorem implIn_3 (n i:Int) (t:ByteArray) (lo hi:Int) (s:TStore):InC 30 s ⟨3,n,i,t,lo,hi⟩:=by
 intro S q w hs hv
 obtain⟨x0,x1,x2,x3,x4,x5,x6,x7,x8,x9,x10,x11,x12⟩:=s
 have HSt:=hide hs
 obtain⟨A0,c0,A1,c1,A2,c2,A3,c3,A6,c6,A7,c7,A8,c8,hq,e0,e1,e2,e3,e4,e5,e6,e7,e8,e9,e10,e11,e12,hlc0,hcm0,hlc1,hcm1,hlc2,hcm2,hlc3,hcm3,hlc6,hcm6,hlc7,hcm7,hlc8,hcm8,g4,g5,g10,g11,g12,-,-,-,-,-,-,-⟩:=StoreAt.opn hs
 clear hs
 have hqn:¬q=w.heap.size:=by omega
 have hts:=hv.t
 unfold maxLen at hts
 simp only at hts
 cases hw:wellB ⟨3,n,i,t,lo,hi⟩
 case false =>
  exact rk79
 case true =>
  have HW:=hide hw
  have RR:=hide (show inB (TStore.mk x0 x1 x2 x3 x4 x5 x6 x7 x8 x9 x10 x11 x12) ⟨3,n,i,t,lo,hi⟩=true by unfold inB;rw[hw,if_neg (show ¬(kindI 3≠0) by rw[kindI_3];simp)];simp)
  exact rk1
set_option maxHeartbeats 2000000 in
theorem implIn_8 (n i:Int) (t:ByteArray) (lo hi:Int) (s:TStore):InC 30 s ⟨8,n,i,t,lo,hi⟩:=by
 intro S q w hs hv
 obtain⟨x0,x1,x2,x3,x4,x5,x6,x7,x8,x9,x10,x11,x12⟩:=s
 have HSt:=hide hs
 obtain⟨A0,c0,A1,c1,A2,c2,A3,c3,A6,c6,A7,c7,A8,c8,hq,e0,e1,e2,e3,e4,e5,e6,e7,e8,e9,e10,e11,e12,hlc0,hcm0,hlc1,hcm1,hlc2,hcm2,hlc3,hcm3,hlc6,hcm6,hlc7,hcm7,hlc8,hcm8,g4,g5,g10,g11,g12,-,-,-,-,-,-,-⟩:=StoreAt.opn hs
 clear hs
 have hqn:¬q=w.heap.size:=by omega
 have hts:=hv.t
 unfold maxLen at hts
 simp only at hts
 cases hw:wellB ⟨8,n,i,t,lo,hi⟩
 case false =>
  exact rk79
 case true =>
  have HW:=hide hw
  have hn:=well_n hw (by omega)
  by_cases hc:n<(x0.length:Int)
  ·
   have RR:=hide (show inB (TStore.mk x0 x1 x2 x3 x4 x5 x6 x7 x8 x9 x10 x11 x12) ⟨8,n,i,t,lo,hi⟩=true by unfold inB;rw[hw,if_neg (show ¬(kindI 8≠0) by rw[kindI_8];simp)];simp only[TStore.names_mk,TStore.records_mk,TStore.globals_mk];simp[hc])
   have dc:decide (n<(x0.length:Int))=true:=by simp[hc]
   exact rk1
  ·
   have RR:=hide (show inB (TStore.mk x0 x1 x2 x3 x4 x5 x6 x7 x8 x9 x10 x11 x12) ⟨8,n,i,t,lo,hi⟩=false by unfold inB;rw[hw,if_neg (show ¬(kindI 8≠0) by rw[kindI_8];simp)];simp only[TStore.names_mk,TStore.records_mk,TStore.globals_mk];simp[hc])
   have dc:decide (n<(x0.length:Int))=false:=by simp[hc]
   exact rk1
set_option maxHeartbeats 2000000 in
theorem implIn_9 (n i:Int) (t:ByteArray) (lo hi:Int) (s:TStore):InC 30 s ⟨9,n,i,t,lo,hi⟩:=by
 intro S q w hs hv
 obtain⟨x0,x1,x2,x3,x4,x5,x6,x7,x8,x9,x10,x11,x12⟩:=s
 have HSt:=hide hs
 obtain⟨A0,c0,A1,c1,A2,c2,A3,c3,A6,c6,A7,c7,A8,c8,hq,e0,e1,e2,e3,e4,e5,e6,e7,e8,e9,e10,e11,e12,hlc0,hcm0,hlc1,hcm1,hlc2,hcm2,hlc3,hcm3,hlc6,hcm6,hlc7,hcm7,hlc8,hcm8,g4,g5,g10,g11,g12,-,-,-,-,-,-,-⟩:=StoreAt.opn hs
 clear hs
 have hqn:¬q=w.heap.size:=by omega
 have hts:=hv.t
 unfold maxLen at hts
 simp only at hts
 cases hw:wellB ⟨9,n,i,t,lo,hi⟩
 case false =>
  exact rk79
 case true =>
  have HW:=hide hw
  have hn:=well_n hw (by omega)
  by_cases hc:n≤54
  ·
   have RR:=hide (show inB (TStore.mk x0 x1 x2 x3 x4 x5 x6 x7 x8 x9 x10 x11 x12) ⟨9,n,i,t,lo,hi⟩=true by unfold inB;rw[hw,if_neg (show ¬(kindI 9≠0) by rw[kindI_9];simp)];simp only[TStore.names_mk,TStore.records_mk,TStore.globals_mk];simp[hc])
   have dc:decide (n≤54)=true:=by simp[hc]
   exact rk1
  ·
   have RR:=hide (show inB (TStore.mk x0 x1 x2 x3 x4 x5 x6 x7 x8 x9 x10 x11 x12) ⟨9,n,i,t,lo,hi⟩=false by unfold inB;rw[hw,if_neg (show ¬(kindI 9≠0) by rw[kindI_9];simp)];simp only[TStore.names_mk,TStore.records_mk,TStore.globals_mk];simp[hc])
   have dc:decide (n≤54)=false:=by simp[hc]
   exact rk1
set_option maxHeartbeats 2000000 in
theorem implIn_10 (n i:Int) (t:ByteArray) (lo hi:Int) (s:TStore):InC 30 s ⟨10,n,i,t,lo,hi⟩:=by
 intro S q w hs hv
 obtain⟨x0,x1,x2,x3,x4,x5,x6,x7,x8,x9,x10,x11,x12⟩:=s
 have HSt:=hide hs
 obtain⟨A0,c0,A1,c1,A2,c2,A3,c3,A6,c6,A7,c7,A8,c8,hq,e0,e1,e2,e3,e4,e5,e6,e7,e8,e9,e10,e11,e12,hlc0,hcm0,hlc1,hcm1,hlc2,hcm2,hlc3,hcm3,hlc6,hcm6,hlc7,hcm7,hlc8,hcm8,g4,g5,g10,g11,g12,-,-,-,-,-,-,-⟩:=StoreAt.opn hs
 clear hs
 have hqn:¬q=w.heap.size:=by omega
 have hts:=hv.t
 unfold maxLen at hts
 simp only at hts
 cases hw:wellB ⟨10,n,i,t,lo,hi⟩
 case false =>
  exact rk79
 case true =>
  have HW:=hide hw
  have hn:=well_n hw (by omega)
  by_cases hc:n<(x1.length:Int)
  ·
   have RR:=hide (show inB (TStore.mk x0 x1 x2 x3 x4 x5 x6 x7 x8 x9 x10 x11 x12) ⟨10,n,i,t,lo,hi⟩=true by unfold inB;rw[hw,if_neg (show ¬(kindI 10≠0) by rw[kindI_10];simp)];simp only[TStore.names_mk,TStore.records_mk,TStore.globals_mk];simp[hc])
   have dc:decide (n<(x1.length:Int))=true:=by simp[hc]
   exact rk1
  ·
   have RR:=hide (show inB (TStore.mk x0 x1 x2 x3 x4 x5 x6 x7 x8 x9 x10 x11 x12) ⟨10,n,i,t,lo,hi⟩=false by unfold inB;rw[hw,if_neg (show ¬(kindI 10≠0) by rw[kindI_10];simp)];simp only[TStore.names_mk,TStore.records_mk,TStore.globals_mk];simp[hc])
   have dc:decide (n<(x1.length:Int))=false:=by simp[hc]
   exact rk1
set_option maxHeartbeats 2000000 in
theorem implIn_14 (n i:Int) (t:ByteArray) (lo hi:Int) (s:TStore):InC 30 s ⟨14,n,i,t,lo,hi⟩:=by
 intro S q w hs hv
 obtain⟨x0,x1,x2,x3,x4,x5,x6,x7,x8,x9,x10,x11,x12⟩:=s
 have HSt:=hide hs
 obtain⟨A0,c0,A1,c1,A2,c2,A3,c3,A6,c6,A7,c7,A8,c8,hq,e0,e1,e2,e3,e4,e5,e6,e7,e8,e9,e10,e11,e12,hlc0,hcm0,hlc1,hcm1,hlc2,hcm2,hlc3,hcm3,hlc6,hcm6,hlc7,hcm7,hlc8,hcm8,g4,g5,g10,g11,g12,-,-,-,-,-,-,-⟩:=StoreAt.opn hs
 clear hs
 have hqn:¬q=w.heap.size:=by omega
 have hts:=hv.t
 unfold maxLen at hts
 simp only at hts
 cases hw:wellB ⟨14,n,i,t,lo,hi⟩
 case false =>
  exact rk79
 case true =>
  have HW:=hide hw
  have hi0:=well_i hw (by omega)
  by_cases hc:i<(x3.length:Int)
  ·
   have RR:=hide (show inB (TStore.mk x0 x1 x2 x3 x4 x5 x6 x7 x8 x9 x10 x11 x12) ⟨14,n,i,t,lo,hi⟩=true by unfold inB;rw[hw,if_neg (show ¬(kindI 14≠0) by rw[kindI_14];simp)];simp only[TStore.names_mk,TStore.records_mk,TStore.globals_mk];simp[hc])
   have dc:decide (i<(x3.length:Int))=true:=by simp[hc]
   exact rk1
  ·
   have RR:=hide (show inB (TStore.mk x0 x1 x2 x3 x4 x5 x6 x7 x8 x9 x10 x11 x12) ⟨14,n,i,t,lo,hi⟩=false by unfold inB;rw[hw,if_neg (show ¬(kindI 14≠0) by rw[kindI_14];simp)];simp only[TStore.names_mk,TStore.records_mk,TStore.globals_mk];simp[hc])
   have dc:decide (i<(x3.length:Int))=false:=by simp[hc]
   exact rk1
set_option maxHeartbeats 2000000 in
theorem implIn_18 (n i:Int) (t:ByteArray) (lo hi:Int) (s:TStore):InC 30 s ⟨18,n,i,t,lo,hi⟩:=by
 intro S q w hs hv
 obtain⟨x0,x1,x2,x3,x4,x5,x6,x7,x8,x9,x10,x11,x12⟩:=s
 have HSt:=hide hs
 obtain⟨A0,c0,A1,c1,A2,c2,A3,c3,A6,c6,A7,c7,A8,c8,hq,e0,e1,e2,e3,e4,e5,e6,e7,e8,e9,e10,e11,e12,hlc0,hcm0,hlc1,hcm1,hlc2,hcm2,hlc3,hcm3,hlc6,hcm6,hlc7,hcm7,hlc8,hcm8,g4,g5,g10,g11,g12,-,-,-,-,-,-,-⟩:=StoreAt.opn hs
 clear hs
 have hqn:¬q=w.heap.size:=by omega
 have hts:=hv.t
 unfold maxLen at hts
 simp only at hts
 cases hw:wellB ⟨18,n,i,t,lo,hi⟩
 case false =>
  exact rk79
 case true =>
  have HW:=hide hw
  have RR:=hide (show inB (TStore.mk x0 x1 x2 x3 x4 x5 x6 x7 x8 x9 x10 x11 x12) ⟨18,n,i,t,lo,hi⟩=true by unfold inB;rw[hw,if_neg (show ¬(kindI 18≠0) by rw[kindI_18];simp)];simp)
  exact rk1
set_option maxHeartbeats 2000000 in
theorem implIn_out (k:Int) (h:k<0∨20<k) (n i:Int) (t:ByteArray) (lo hi:Int) (s:TStore):InC 30 s ⟨k,n,i,t,lo,hi⟩:=by
 intro S q w hs hv
 obtain⟨x0,x1,x2,x3,x4,x5,x6,x7,x8,x9,x10,x11,x12⟩:=s
 have HSt:=hide hs
 obtain⟨A0,c0,A1,c1,A2,c2,A3,c3,A6,c6,A7,c7,A8,c8,hq,e0,e1,e2,e3,e4,e5,e6,e7,e8,e9,e10,e11,e12,hlc0,hcm0,hlc1,hcm1,hlc2,hcm2,hlc3,hcm3,hlc6,hcm6,hlc7,hcm7,hlc8,hcm8,g4,g5,g10,g11,g12,-,-,-,-,-,-,-⟩:=StoreAt.opn hs
 clear hs
 have hqn:¬q=w.heap.size:=by omega
 have hts:=hv.t
 unfold maxLen at hts
 simp only at hts
 cases hw:wellB ⟨k,n,i,t,lo,hi⟩
 case false =>
  exact rk79
 case true =>
  exfalso
  exact rk205
end Go.Proofs.YtoikhhnmbbbjjaaDoor
