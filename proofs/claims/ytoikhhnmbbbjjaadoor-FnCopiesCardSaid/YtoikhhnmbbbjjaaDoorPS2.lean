/- The reference: is a value in a store? -/
import Derived.Test.YtoikhhnmbbbjjaaDoorPr
import Derived.Test.YtoikhhnmbbbjjaaDoorPShelf
namespace Go.Proofs.YtoikhhnmbbbjjaaDoor
set_option linter.unusedVariables false
set_option linter.unusedSimpArgs false
set_option maxRecDepth 100000
open Go.RowKit
--%quiet
theorem kindI_0:kindI 0=0:=by decide
theorem kindI_1:kindI 1=0:=by decide
theorem kindI_2:kindI 2=0:=by decide
theorem kindI_3:kindI 3=0:=by decide
theorem kindI_4:kindI 4=2:=by decide
theorem kindI_5:kindI 5=3:=by decide
theorem kindI_6:kindI 6=4:=by decide
theorem kindI_7:kindI 7=5:=by decide
theorem kindI_8:kindI 8=0:=by decide
theorem kindI_9:kindI 9=0:=by decide
theorem kindI_10:kindI 10=0:=by decide
theorem kindI_11:kindI 11=6:=by decide
theorem kindI_12:kindI 12=7:=by decide
theorem kindI_13:kindI 13=1:=by decide
theorem kindI_14:kindI 14=0:=by decide
theorem kindI_15:kindI 15=2:=by decide
theorem kindI_16:kindI 16=5:=by decide
theorem kindI_17:kindI 17=8:=by decide
theorem kindI_18:kindI 18=0:=by decide
theorem kindI_19:kindI 19=1:=by decide
theorem kindI_20:kindI 20=9:=by decide
def hasB (s:TStore) (n kind:Int):Bool:=decide (0≤n)&&(match s.objects[n.toNat]? with | some o=>decide (o.kind=kind) | none=>false)
theorem well_n {k n i:Int} {t:ByteArray} {lo hi:Int} (hw:wellB ⟨k,n,i,t,lo,hi⟩=true) (hk:k=4∨k=5∨k=6∨k=7∨k=8∨k=9∨k=10∨k=11∨k=12∨k=13∨k=15∨k=16∨k=17∨k=19∨k=20):0≤n:=by
 unfold wellB at hw
 rcases hk with rfl | rfl | rfl | rfl | rfl | rfl | rfl | rfl | rfl | rfl | rfl | rfl | rfl | rfl | rfl <;> simp at hw <;> omega
theorem well_i {k n i:Int} {t:ByteArray} {lo hi:Int} (hw:wellB ⟨k,n,i,t,lo,hi⟩=true) (hk:k=13∨k=14∨k=15∨k=16):0≤i:=by
 unfold wellB at hw
 rcases hk with rfl | rfl | rfl | rfl <;> simp at hw <;> omega
theorem inB_bad {s:TStore} {v:VVal} (h:wellB v=false):inB s v=false:=by unfold inB;rw[h];rfl
theorem inB_obj {s:TStore} {v:VVal} (h:wellB v=true) (hk:kindI v.k≠0):inB s v=objInB s v:=by unfold inB;rw[h,if_pos hk];rfl
theorem objIn_no {s:TStore} {v:VVal} (h:s.objects.length≤v.n.toNat):objInB s v=false:=by
 unfold objInB;rw[List.getElem?_eq_none h]
theorem objIn_yes {s:TStore} {v:VVal} {o:TObject} (h:v.n.toNat<s.objects.length) (ho:s.objects[v.n.toNat]=o):objInB s v=(decide (o.kind=kindI v.k)&&(if v.k=13∨v.k=16 then decide (v.i<(o.items.length:Int)) else true)):=by
 unfold objInB;rw[List.getElem?_eq_getElem h,ho]
theorem hasB_no {s:TStore} {n kd:Int} (h:s.objects.length≤n.toNat):hasB s n kd=false:=by
 unfold hasB;rw[List.getElem?_eq_none h];simp
theorem hasB_yes {s:TStore} {n kd:Int} {o:TObject} (h0:0≤n) (h:n.toNat<s.objects.length) (ho:s.objects[n.toNat]=o):hasB s n kd=decide (o.kind=kd):=by
 unfold hasB;rw[List.getElem?_eq_getElem h,ho,decide_eq_true h0];rfl
theorem objIn_has {s:TStore} {v:VVal} (h0:0≤v.n) (hk:¬(v.k=13∨v.k=16)):objInB s v=hasB s v.n (kindI v.k):=by
 unfold objInB hasB
 rw[decide_eq_true h0,Bool.true_and]
 cases s.objects[v.n.toNat]? with
 | none=>rfl
 | some o=>simp only[if_neg hk,Bool.and_true]
abbrev InC (f:FuncId) (s:TStore) (v:VVal):Prop:=∀(S:Nat→Prop) (q:Nat) (w:World),StoreAt w S q s→v.Ok →
 Calls Tryd.prog f #[.pointer (some ⟨q,0,none⟩),.agg #[.int .i64 v.k,.int .i64 v.n,.int .i64 v.i,.string v.t,.int .i64 v.lo,.int .i64 v.hi]] w fun e w'=>e=.returned (.bool (inB s v))∧Bel w w'
set_option maxHeartbeats 1000000 in
theorem specKind_any (k:Int) (w:World):Calls Tryd.prog 43 #[.int .i64 k] w fun e w'=>e=.returned (.int .i64 (kindI k))∧w=w':=by
 unfold kindI
 go_enter Tryd.func43,Tryd.ntmps43
 go_wp2
 all_goals
  go_returns
  go_light
  refine⟨?_,rfl⟩
  simp only[Array.getD_eq_getD_getElem?,List.getElem?_toArray,List.getElem?_cons_succ,List.getElem?_cons_zero,Option.getD_some]
  first | done | (simp_all;done) | (simp_all;omega)
set_option maxHeartbeats 2000000 in
theorem specIn_0 (n i:Int) (t:ByteArray) (lo hi:Int) (s:TStore):InC 19 s ⟨0,n,i,t,lo,hi⟩:=by
 intro S q w hs hv
 obtain⟨x0,x1,x2,x3,x4,x5,x6,x7,x8,x9,x10,x11,x12⟩:=s
 have HSt:=hide hs
 obtain⟨A0,c0,A1,c1,A2,c2,A3,c3,A6,c6,A7,c7,A8,c8,hq,e0,e1,e2,e3,e4,e5,e6,e7,e8,e9,e10,e11,e12,hlc0,hcm0,hlc1,hcm1,hlc2,hcm2,hlc3,hcm3,hlc6,hcm6,hlc7,hcm7,hlc8,hcm8,g4,g5,g10,g11,g12,-,-,-,-,-,-,-⟩:=StoreAt.opn hs
 clear hs
 have hqn:¬q=w.heap.size:=by omega
 have hts:=hv.t
 unfold maxLen at hts
 simp only at hts
 cases hw:wellB ⟨0,n,i,t,lo,hi⟩
 case false =>
  exact rk212
 case true =>
  have HW:=hide hw
  have RR:=hide (show inB (TStore.mk x0 x1 x2 x3 x4 x5 x6 x7 x8 x9 x10 x11 x12) ⟨0,n,i,t,lo,hi⟩=true by unfold inB;rw[hw,if_neg (show ¬(kindI 0≠0) by rw[kindI_0];simp)];simp)
  exact rk37
set_option maxHeartbeats 2000000 in
theorem specIn_1 (n i:Int) (t:ByteArray) (lo hi:Int) (s:TStore):InC 19 s ⟨1,n,i,t,lo,hi⟩:=by
 intro S q w hs hv
 obtain⟨x0,x1,x2,x3,x4,x5,x6,x7,x8,x9,x10,x11,x12⟩:=s
 have HSt:=hide hs
 obtain⟨A0,c0,A1,c1,A2,c2,A3,c3,A6,c6,A7,c7,A8,c8,hq,e0,e1,e2,e3,e4,e5,e6,e7,e8,e9,e10,e11,e12,hlc0,hcm0,hlc1,hcm1,hlc2,hcm2,hlc3,hcm3,hlc6,hcm6,hlc7,hcm7,hlc8,hcm8,g4,g5,g10,g11,g12,-,-,-,-,-,-,-⟩:=StoreAt.opn hs
 clear hs
 have hqn:¬q=w.heap.size:=by omega
 have hts:=hv.t
 unfold maxLen at hts
 simp only at hts
 cases hw:wellB ⟨1,n,i,t,lo,hi⟩
 case false =>
  have RR:=hide (inB_bad (s:=(TStore.mk x0 x1 x2 x3 x4 x5 x6 x7 x8 x9 x10 x11 x12)) hw)
  have HW:=hide hw
  exact rk55
 case true =>
  have HW:=hide hw
  have RR:=hide (show inB (TStore.mk x0 x1 x2 x3 x4 x5 x6 x7 x8 x9 x10 x11 x12) ⟨1,n,i,t,lo,hi⟩=true by unfold inB;rw[hw,if_neg (show ¬(kindI 1≠0) by rw[kindI_1];simp)];simp)
  exact rk55
set_option maxHeartbeats 2000000 in
theorem specIn_2 (n i:Int) (t:ByteArray) (lo hi:Int) (s:TStore):InC 19 s ⟨2,n,i,t,lo,hi⟩:=by
 intro S q w hs hv
 obtain⟨x0,x1,x2,x3,x4,x5,x6,x7,x8,x9,x10,x11,x12⟩:=s
 have HSt:=hide hs
 obtain⟨A0,c0,A1,c1,A2,c2,A3,c3,A6,c6,A7,c7,A8,c8,hq,e0,e1,e2,e3,e4,e5,e6,e7,e8,e9,e10,e11,e12,hlc0,hcm0,hlc1,hcm1,hlc2,hcm2,hlc3,hcm3,hlc6,hcm6,hlc7,hcm7,hlc8,hcm8,g4,g5,g10,g11,g12,-,-,-,-,-,-,-⟩:=StoreAt.opn hs
 clear hs
 have hqn:¬q=w.heap.size:=by omega
 have hts:=hv.t
 unfold maxLen at hts
 simp only at hts
 cases hw:wellB ⟨2,n,i,t,lo,hi⟩
 case false =>
  have RR:=hide (inB_bad (s:=(TStore.mk x0 x1 x2 x3 x4 x5 x6 x7 x8 x9 x10 x11 x12)) hw)
  have HW:=hide hw
  exact rk56
 case true =>
  have HW:=hide hw
  have RR:=hide (show inB (TStore.mk x0 x1 x2 x3 x4 x5 x6 x7 x8 x9 x10 x11 x12) ⟨2,n,i,t,lo,hi⟩=true by unfold inB;rw[hw,if_neg (show ¬(kindI 2≠0) by rw[kindI_2];simp)];simp)
  exact rk56
set_option maxHeartbeats 2000000 in
theorem specIn_3 (n i:Int) (t:ByteArray) (lo hi:Int) (s:TStore):InC 19 s ⟨3,n,i,t,lo,hi⟩:=by
 intro S q w hs hv
 obtain⟨x0,x1,x2,x3,x4,x5,x6,x7,x8,x9,x10,x11,x12⟩:=s
 have HSt:=hide hs
 obtain⟨A0,c0,A1,c1,A2,c2,A3,c3,A6,c6,A7,c7,A8,c8,hq,e0,e1,e2,e3,e4,e5,e6,e7,e8,e9,e10,e11,e12,hlc0,hcm0,hlc1,hcm1,hlc2,hcm2,hlc3,hcm3,hlc6,hcm6,hlc7,hcm7,hlc8,hcm8,g4,g5,g10,g11,g12,-,-,-,-,-,-,-⟩:=StoreAt.opn hs
 clear hs
 have hqn:¬q=w.heap.size:=by omega
 have hts:=hv.t
 unfold maxLen at hts
 simp only at hts
 cases hw:wellB ⟨3,n,i,t,lo,hi⟩
 case false =>
  have RR:=hide (inB_bad (s:=(TStore.mk x0 x1 x2 x3 x4 x5 x6 x7 x8 x9 x10 x11 x12)) hw)
  have HW:=hide hw
  exact rk57
 case true =>
  have HW:=hide hw
  have RR:=hide (show inB (TStore.mk x0 x1 x2 x3 x4 x5 x6 x7 x8 x9 x10 x11 x12) ⟨3,n,i,t,lo,hi⟩=true by unfold inB;rw[hw,if_neg (show ¬(kindI 3≠0) by rw[kindI_3];simp)];simp)
  exact rk57
set_option maxHeartbeats 2000000 in
theorem specIn_8 (n i:Int) (t:ByteArray) (lo hi:Int) (s:TStore):InC 19 s ⟨8,n,i,t,lo,hi⟩:=by
 intro S q w hs hv
 obtain⟨x0,x1,x2,x3,x4,x5,x6,x7,x8,x9,x10,x11,x12⟩:=s
 have HSt:=hide hs
 obtain⟨A0,c0,A1,c1,A2,c2,A3,c3,A6,c6,A7,c7,A8,c8,hq,e0,e1,e2,e3,e4,e5,e6,e7,e8,e9,e10,e11,e12,hlc0,hcm0,hlc1,hcm1,hlc2,hcm2,hlc3,hcm3,hlc6,hcm6,hlc7,hcm7,hlc8,hcm8,g4,g5,g10,g11,g12,-,-,-,-,-,-,-⟩:=StoreAt.opn hs
 clear hs
 have hqn:¬q=w.heap.size:=by omega
 have hts:=hv.t
 unfold maxLen at hts
 simp only at hts
 cases hw:wellB ⟨8,n,i,t,lo,hi⟩
 case false =>
  have RR:=hide (inB_bad (s:=(TStore.mk x0 x1 x2 x3 x4 x5 x6 x7 x8 x9 x10 x11 x12)) hw)
  have HW:=hide hw
  exact rk38
 case true =>
  have HW:=hide hw
  have hn:=well_n hw (by omega)
  by_cases hc:n<(x0.length:Int)
  ·
   have RR:=hide (show inB (TStore.mk x0 x1 x2 x3 x4 x5 x6 x7 x8 x9 x10 x11 x12) ⟨8,n,i,t,lo,hi⟩=true by unfold inB;rw[hw,if_neg (show ¬(kindI 8≠0) by rw[kindI_8];simp)];simp only[TStore.names_mk,TStore.records_mk,TStore.globals_mk];simp[hc])
   have dc:decide (n<(x0.length:Int))=true:=by simp[hc]
   exact rk38
  ·
   have RR:=hide (show inB (TStore.mk x0 x1 x2 x3 x4 x5 x6 x7 x8 x9 x10 x11 x12) ⟨8,n,i,t,lo,hi⟩=false by unfold inB;rw[hw,if_neg (show ¬(kindI 8≠0) by rw[kindI_8];simp)];simp only[TStore.names_mk,TStore.records_mk,TStore.globals_mk];simp[hc])
   have dc:decide (n<(x0.length:Int))=false:=by simp[hc]
   exact rk38
set_option maxHeartbeats 2000000 in
theorem specIn_9 (n i:Int) (t:ByteArray) (lo hi:Int) (s:TStore):InC 19 s ⟨9,n,i,t,lo,hi⟩:=by
 intro S q w hs hv
 obtain⟨x0,x1,x2,x3,x4,x5,x6,x7,x8,x9,x10,x11,x12⟩:=s
 have HSt:=hide hs
 obtain⟨A0,c0,A1,c1,A2,c2,A3,c3,A6,c6,A7,c7,A8,c8,hq,e0,e1,e2,e3,e4,e5,e6,e7,e8,e9,e10,e11,e12,hlc0,hcm0,hlc1,hcm1,hlc2,hcm2,hlc3,hcm3,hlc6,hcm6,hlc7,hcm7,hlc8,hcm8,g4,g5,g10,g11,g12,-,-,-,-,-,-,-⟩:=StoreAt.opn hs
 clear hs
 have hqn:¬q=w.heap.size:=by omega
 have hts:=hv.t
 unfold maxLen at hts
 simp only at hts
 cases hw:wellB ⟨9,n,i,t,lo,hi⟩
 case false =>
  have RR:=hide (inB_bad (s:=(TStore.mk x0 x1 x2 x3 x4 x5 x6 x7 x8 x9 x10 x11 x12)) hw)
  have HW:=hide hw
  exact rk39
 case true =>
  have HW:=hide hw
  have hn:=well_n hw (by omega)
  by_cases hc:n≤54
  ·
   have RR:=hide (show inB (TStore.mk x0 x1 x2 x3 x4 x5 x6 x7 x8 x9 x10 x11 x12) ⟨9,n,i,t,lo,hi⟩=true by unfold inB;rw[hw,if_neg (show ¬(kindI 9≠0) by rw[kindI_9];simp)];simp only[TStore.names_mk,TStore.records_mk,TStore.globals_mk];simp[hc])
   have dc:decide (n≤54)=true:=by simp[hc]
   exact rk39
  ·
   have RR:=hide (show inB (TStore.mk x0 x1 x2 x3 x4 x5 x6 x7 x8 x9 x10 x11 x12) ⟨9,n,i,t,lo,hi⟩=false by unfold inB;rw[hw,if_neg (show ¬(kindI 9≠0) by rw[kindI_9];simp)];simp only[TStore.names_mk,TStore.records_mk,TStore.globals_mk];simp[hc])
   have dc:decide (n≤54)=false:=by simp[hc]
   exact rk39
set_option maxHeartbeats 2000000 in
theorem specIn_10 (n i:Int) (t:ByteArray) (lo hi:Int) (s:TStore):InC 19 s ⟨10,n,i,t,lo,hi⟩:=by
 intro S q w hs hv
 obtain⟨x0,x1,x2,x3,x4,x5,x6,x7,x8,x9,x10,x11,x12⟩:=s
 have HSt:=hide hs
 obtain⟨A0,c0,A1,c1,A2,c2,A3,c3,A6,c6,A7,c7,A8,c8,hq,e0,e1,e2,e3,e4,e5,e6,e7,e8,e9,e10,e11,e12,hlc0,hcm0,hlc1,hcm1,hlc2,hcm2,hlc3,hcm3,hlc6,hcm6,hlc7,hcm7,hlc8,hcm8,g4,g5,g10,g11,g12,-,-,-,-,-,-,-⟩:=StoreAt.opn hs
 clear hs
 have hqn:¬q=w.heap.size:=by omega
 have hts:=hv.t
 unfold maxLen at hts
 simp only at hts
 cases hw:wellB ⟨10,n,i,t,lo,hi⟩
 case false =>
  have RR:=hide (inB_bad (s:=(TStore.mk x0 x1 x2 x3 x4 x5 x6 x7 x8 x9 x10 x11 x12)) hw)
  have HW:=hide hw
  exact rk35
 case true =>
  have HW:=hide hw
  have hn:=well_n hw (by omega)
  by_cases hc:n<(x1.length:Int)
  ·
   have RR:=hide (show inB (TStore.mk x0 x1 x2 x3 x4 x5 x6 x7 x8 x9 x10 x11 x12) ⟨10,n,i,t,lo,hi⟩=true by unfold inB;rw[hw,if_neg (show ¬(kindI 10≠0) by rw[kindI_10];simp)];simp only[TStore.names_mk,TStore.records_mk,TStore.globals_mk];simp[hc])
   have dc:decide (n<(x1.length:Int))=true:=by simp[hc]
   exact rk35
  ·
   have RR:=hide (show inB (TStore.mk x0 x1 x2 x3 x4 x5 x6 x7 x8 x9 x10 x11 x12) ⟨10,n,i,t,lo,hi⟩=false by unfold inB;rw[hw,if_neg (show ¬(kindI 10≠0) by rw[kindI_10];simp)];simp only[TStore.names_mk,TStore.records_mk,TStore.globals_mk];simp[hc])
   have dc:decide (n<(x1.length:Int))=false:=by simp[hc]
   exact rk35
set_option maxHeartbeats 2000000 in
theorem specIn_14 (n i:Int) (t:ByteArray) (lo hi:Int) (s:TStore):InC 19 s ⟨14,n,i,t,lo,hi⟩:=by
 intro S q w hs hv
 obtain⟨x0,x1,x2,x3,x4,x5,x6,x7,x8,x9,x10,x11,x12⟩:=s
 have HSt:=hide hs
 obtain⟨A0,c0,A1,c1,A2,c2,A3,c3,A6,c6,A7,c7,A8,c8,hq,e0,e1,e2,e3,e4,e5,e6,e7,e8,e9,e10,e11,e12,hlc0,hcm0,hlc1,hcm1,hlc2,hcm2,hlc3,hcm3,hlc6,hcm6,hlc7,hcm7,hlc8,hcm8,g4,g5,g10,g11,g12,-,-,-,-,-,-,-⟩:=StoreAt.opn hs
 clear hs
 have hqn:¬q=w.heap.size:=by omega
 have hts:=hv.t
 unfold maxLen at hts
 simp only at hts
 cases hw:wellB ⟨14,n,i,t,lo,hi⟩
 case false =>
  have RR:=hide (inB_bad (s:=(TStore.mk x0 x1 x2 x3 x4 x5 x6 x7 x8 x9 x10 x11 x12)) hw)
  have HW:=hide hw
  exact rk36
 case true =>
  have HW:=hide hw
  have hi0:=well_i hw (by omega)
  by_cases hc:i<(x3.length:Int)
  ·
   have RR:=hide (show inB (TStore.mk x0 x1 x2 x3 x4 x5 x6 x7 x8 x9 x10 x11 x12) ⟨14,n,i,t,lo,hi⟩=true by unfold inB;rw[hw,if_neg (show ¬(kindI 14≠0) by rw[kindI_14];simp)];simp only[TStore.names_mk,TStore.records_mk,TStore.globals_mk];simp[hc])
   have dc:decide (i<(x3.length:Int))=true:=by simp[hc]
   exact rk36
  ·
   have RR:=hide (show inB (TStore.mk x0 x1 x2 x3 x4 x5 x6 x7 x8 x9 x10 x11 x12) ⟨14,n,i,t,lo,hi⟩=false by unfold inB;rw[hw,if_neg (show ¬(kindI 14≠0) by rw[kindI_14];simp)];simp only[TStore.names_mk,TStore.records_mk,TStore.globals_mk];simp[hc])
   have dc:decide (i<(x3.length:Int))=false:=by simp[hc]
   exact rk36
set_option maxHeartbeats 2000000 in
theorem specIn_18 (n i:Int) (t:ByteArray) (lo hi:Int) (s:TStore):InC 19 s ⟨18,n,i,t,lo,hi⟩:=by
 intro S q w hs hv
 obtain⟨x0,x1,x2,x3,x4,x5,x6,x7,x8,x9,x10,x11,x12⟩:=s
 have HSt:=hide hs
 obtain⟨A0,c0,A1,c1,A2,c2,A3,c3,A6,c6,A7,c7,A8,c8,hq,e0,e1,e2,e3,e4,e5,e6,e7,e8,e9,e10,e11,e12,hlc0,hcm0,hlc1,hcm1,hlc2,hcm2,hlc3,hcm3,hlc6,hcm6,hlc7,hcm7,hlc8,hcm8,g4,g5,g10,g11,g12,-,-,-,-,-,-,-⟩:=StoreAt.opn hs
 clear hs
 have hqn:¬q=w.heap.size:=by omega
 have hts:=hv.t
 unfold maxLen at hts
 simp only at hts
 cases hw:wellB ⟨18,n,i,t,lo,hi⟩
 case false =>
  have RR:=hide (inB_bad (s:=(TStore.mk x0 x1 x2 x3 x4 x5 x6 x7 x8 x9 x10 x11 x12)) hw)
  have HW:=hide hw
  exact rk54
 case true =>
  have HW:=hide hw
  have RR:=hide (show inB (TStore.mk x0 x1 x2 x3 x4 x5 x6 x7 x8 x9 x10 x11 x12) ⟨18,n,i,t,lo,hi⟩=true by unfold inB;rw[hw,if_neg (show ¬(kindI 18≠0) by rw[kindI_18];simp)];simp)
  exact rk54
set_option maxHeartbeats 2000000 in
theorem specIn_out (k:Int) (h:k<0∨20<k) (n i:Int) (t:ByteArray) (lo hi:Int) (s:TStore):InC 19 s ⟨k,n,i,t,lo,hi⟩:=by
 intro S q w hs hv
 obtain⟨x0,x1,x2,x3,x4,x5,x6,x7,x8,x9,x10,x11,x12⟩:=s
 have HSt:=hide hs
 obtain⟨A0,c0,A1,c1,A2,c2,A3,c3,A6,c6,A7,c7,A8,c8,hq,e0,e1,e2,e3,e4,e5,e6,e7,e8,e9,e10,e11,e12,hlc0,hcm0,hlc1,hcm1,hlc2,hcm2,hlc3,hcm3,hlc6,hcm6,hlc7,hcm7,hlc8,hcm8,g4,g5,g10,g11,g12,-,-,-,-,-,-,-⟩:=StoreAt.opn hs
 clear hs
 have hqn:¬q=w.heap.size:=by omega
 have hts:=hv.t
 unfold maxLen at hts
 simp only at hts
 cases hw:wellB ⟨k,n,i,t,lo,hi⟩
 case false =>
  exact rk212
 case true =>
  exfalso
  exact rk205
abbrev DataC (f:FuncId) (s:TStore) (v:VVal):Prop:=∀(S:Nat→Prop) (q:Nat) (w:World),StoreAt w S q s→v.Ok →
 Calls Tryd.prog f #[.pointer (some ⟨q,0,none⟩),.agg #[.int .i64 v.k,.int .i64 v.n,.int .i64 v.i,.string v.t,.int .i64 v.lo,.int .i64 v.hi]] w fun e w'=>e=.returned (.bool (dataB s v))∧Bel w w'
end Go.Proofs.YtoikhhnmbbbjjaaDoor
