import Derived.Test.YtjngkknbpfgdcaaGreatDoorPr
import Derived.Test.YtjngkknbpfgdcaaGreatDoorPShelf
set_option linter.unusedVariables false
set_option linter.unusedSimpArgs false
set_option maxRecDepth 100000
set_option maxHeartbeats 8000000
namespace Go.Proofs.YtjngkknbpfgdcaaGreatDoor
open Go.RowKit
--%quiet
theorem DK:ef 0=0:=by decide
theorem DL:ef 1=0:=by decide
theorem DM:ef 2=0:=by decide
theorem DN:ef 3=0:=by decide
theorem p9:ef 4=2:=by decide
theorem ny:ef 5=3:=by decide
theorem qa:ef 6=4:=by decide
theorem qb:ef 7=5:=by decide
theorem xu:ef 8=0:=by decide
theorem xv:ef 9=0:=by decide
theorem tu:ef 10=0:=by decide
theorem nW:ef 11=6:=by decide
theorem nX:ef 12=7:=by decide
theorem lQ:ef 13=1:=by decide
theorem tw:ef 14=0:=by decide
theorem nY:ef 15=2:=by decide
theorem lR:ef 16=5:=by decide
theorem lS:ef 17=8:=by decide
theorem Av:ef 18=0:=by decide
theorem nZ:ef 19=1:=by decide
theorem oa:ef 20=9:=by decide
def hasB (s:cv) (n kind:Int):Bool:=decide (0<=n)&&(match s.objects[n.toNat]? with | some o=>decide (o.kind=kind) | none=>false)
theorem gT {k n i:Int} {t:ByteArray} {lo hi:Int} (hw:dS ⟨k,n,i,t,lo,hi⟩=true) (hk:k=4\/k=5\/k=6\/k=7\/k=8\/k=9\/k=10\/k=11\/k=12\/k=13\/k=15\/k=16\/k=17\/k=19\/k=20):0<=n:=by
 unfold dS at hw
 rcases hk with rfl | rfl | rfl | rfl | rfl | rfl | rfl | rfl | rfl | rfl | rfl | rfl | rfl | rfl | rfl <;> simp at hw <;> omega
theorem mP {k n i:Int} {t:ByteArray} {lo hi:Int} (hw:dS ⟨k,n,i,t,lo,hi⟩=true) (hk:k=13\/k=14\/k=15\/k=16):0<=i:=by
 unfold dS at hw
 rcases hk with rfl | rfl | rfl | rfl <;> simp at hw <;> omega
theorem gW {s:cv} {v:cV} (h:dS v=false):inB s v=false:=by unfold inB;rw[h];rfl
theorem gS {s:cv} {v:cV} (h:dS v=true) (hk:ef v.k≠0):inB s v=tz s v:=by unfold inB;rw[h,if_pos hk];rfl
theorem jy {s:cv} {v:cV} (h:s.objects.length<=v.n.toNat):tz s v=false:=by
 unfold tz;rw[List.getElem?_eq_none h]
theorem iS {s:cv} {v:cV} {o:cz} (h:v.n.toNat<s.objects.length) (ho:s.objects[v.n.toNat]=o):tz s v=(decide (o.kind=ef v.k)&&(if v.k=13\/v.k=16 then decide (v.i<(o.items.length:Int)) else true)):=by
 unfold tz;rw[List.getElem?_eq_getElem h,ho]
theorem DO {s:cv} {n kd:Int} (h:s.objects.length<=n.toNat):hasB s n kd=false:=by
 unfold hasB;rw[List.getElem?_eq_none h];simp
theorem Aw {s:cv} {n kd:Int} {o:cz} (h0:0<=n) (h:n.toNat<s.objects.length) (ho:s.objects[n.toNat]=o):hasB s n kd=decide (o.kind=kd):=by
 unfold hasB;rw[List.getElem?_eq_getElem h,ho,ar h0];rfl
theorem lg {s:cv} {v:cV} (h0:0<=v.n) (hk:¬(v.k=13\/v.k=16)):tz s v=hasB s v.n (ef v.k):=by
 unfold tz hasB
 rw[ar h0,Bool.true_and]
 cases s.objects[v.n.toNat]? with
 | none=>rfl
 | some o=>simp only[if_neg hk,Bool.and_true]
abbrev pU (f:FuncId) (s:cv) (v:cV):Prop:=∀(S:Nat->Prop) (q:Nat) (w:World),cG w S q s->v.Ok ->
 Calls Tryz.prog f #[.pointer (some ⟨q,0,none⟩),.agg #[.int .i64 v.k,.int .i64 v.n,.int .i64 v.i,.string v.t,.int .i64 v.lo,.int .i64 v.hi]] w fun e w'=>e=.returned (.bool (inB s v))/\cE w w'
theorem dR (k:Int) (w:World):Calls Tryz.prog 108 #[.int .i64 k] w fun e w'=>e=.returned (.int .i64 (ef k))/\w=w':=by
 unfold ef
 go_enter Tryz.func108,Tryz.ntmps108
 go_wp2
 all_goals
  go_returns
  go_light
  refine⟨?_,rfl⟩
  simp only[Array.getD_eq_getD_getElem?,List.getElem?_toArray,List.getElem?_cons_succ,List.getElem?_cons_zero,Option.getD_some]
  first | done | (simp_all;done) | (simp_all;omega)
theorem OM (n i:Int) (t:ByteArray) (lo hi:Int) (s:cv):pU 45 s ⟨0,n,i,t,lo,hi⟩:=by
 intro S q w hs hv
 obtain⟨x0,x1,x2,x3,x4,x5,x6,x7,x8,x9,x10,x11,x12⟩:=s
 have jF:=hide hs
 obtain⟨A0,c0,A1,c1,A2,c2,A3,c3,A6,c6,A7,c7,A8,c8,hq,e0,e1,e2,e3,e4,e5,e6,e7,e8,e9,e10,e11,e12,gg,hcm0,ga,hcm1,fB,hcm2,fL,fV,fW,fZ,gh,gi,gb,gd,g4,g5,g10,g11,g12,-,-,-,-,-,-,-⟩:=cG.opn hs
 clear hs
 have gM:¬q=w.heap.size:=aB
 have hts:=hv.t
 unfold maxLen at hts
 simp only at hts
 cases hw:dS ⟨0,n,i,t,lo,hi⟩
 case false =>
  exact WQ
 case true =>
  have HW:=hide hw
  have RR:=hide (show inB (cv.mk x0 x1 x2 x3 x4 x5 x6 x7 x8 x9 x10 x11 x12) ⟨0,n,i,t,lo,hi⟩=true by unfold inB;rw[hw,if_neg (show ¬(ef 0≠0) by rw[DK];simp)];simp)
  exact ada
theorem OO (n i:Int) (t:ByteArray) (lo hi:Int) (s:cv):pU 45 s ⟨1,n,i,t,lo,hi⟩:=by
 intro S q w hs hv
 obtain⟨x0,x1,x2,x3,x4,x5,x6,x7,x8,x9,x10,x11,x12⟩:=s
 have jF:=hide hs
 obtain⟨A0,c0,A1,c1,A2,c2,A3,c3,A6,c6,A7,c7,A8,c8,hq,e0,e1,e2,e3,e4,e5,e6,e7,e8,e9,e10,e11,e12,gg,hcm0,ga,hcm1,fB,hcm2,fL,fV,fW,fZ,gh,gi,gb,gd,g4,g5,g10,g11,g12,-,-,-,-,-,-,-⟩:=cG.opn hs
 clear hs
 have gM:¬q=w.heap.size:=aB
 have hts:=hv.t
 unfold maxLen at hts
 simp only at hts
 cases hw:dS ⟨1,n,i,t,lo,hi⟩
 case false =>
  have RR:=hide (gW (s:=(cv.mk x0 x1 x2 x3 x4 x5 x6 x7 x8 x9 x10 x11 x12)) hw)
  have HW:=hide hw
  exact adb
 case true =>
  have HW:=hide hw
  have RR:=hide (show inB (cv.mk x0 x1 x2 x3 x4 x5 x6 x7 x8 x9 x10 x11 x12) ⟨1,n,i,t,lo,hi⟩=true by unfold inB;rw[hw,if_neg (show ¬(ef 1≠0) by rw[DL];simp)];simp)
  exact adb
theorem OP (n i:Int) (t:ByteArray) (lo hi:Int) (s:cv):pU 45 s ⟨2,n,i,t,lo,hi⟩:=by
 intro S q w hs hv
 obtain⟨x0,x1,x2,x3,x4,x5,x6,x7,x8,x9,x10,x11,x12⟩:=s
 have jF:=hide hs
 obtain⟨A0,c0,A1,c1,A2,c2,A3,c3,A6,c6,A7,c7,A8,c8,hq,e0,e1,e2,e3,e4,e5,e6,e7,e8,e9,e10,e11,e12,gg,hcm0,ga,hcm1,fB,hcm2,fL,fV,fW,fZ,gh,gi,gb,gd,g4,g5,g10,g11,g12,-,-,-,-,-,-,-⟩:=cG.opn hs
 clear hs
 have gM:¬q=w.heap.size:=aB
 have hts:=hv.t
 unfold maxLen at hts
 simp only at hts
 cases hw:dS ⟨2,n,i,t,lo,hi⟩
 case false =>
  have RR:=hide (gW (s:=(cv.mk x0 x1 x2 x3 x4 x5 x6 x7 x8 x9 x10 x11 x12)) hw)
  have HW:=hide hw
  exact ade
 case true =>
  have HW:=hide hw
  have RR:=hide (show inB (cv.mk x0 x1 x2 x3 x4 x5 x6 x7 x8 x9 x10 x11 x12) ⟨2,n,i,t,lo,hi⟩=true by unfold inB;rw[hw,if_neg (show ¬(ef 2≠0) by rw[DM];simp)];simp)
  exact ade
theorem OQ (n i:Int) (t:ByteArray) (lo hi:Int) (s:cv):pU 45 s ⟨3,n,i,t,lo,hi⟩:=by
 intro S q w hs hv
 obtain⟨x0,x1,x2,x3,x4,x5,x6,x7,x8,x9,x10,x11,x12⟩:=s
 have jF:=hide hs
 obtain⟨A0,c0,A1,c1,A2,c2,A3,c3,A6,c6,A7,c7,A8,c8,hq,e0,e1,e2,e3,e4,e5,e6,e7,e8,e9,e10,e11,e12,gg,hcm0,ga,hcm1,fB,hcm2,fL,fV,fW,fZ,gh,gi,gb,gd,g4,g5,g10,g11,g12,-,-,-,-,-,-,-⟩:=cG.opn hs
 clear hs
 have gM:¬q=w.heap.size:=aB
 have hts:=hv.t
 unfold maxLen at hts
 simp only at hts
 cases hw:dS ⟨3,n,i,t,lo,hi⟩
 case false =>
  have RR:=hide (gW (s:=(cv.mk x0 x1 x2 x3 x4 x5 x6 x7 x8 x9 x10 x11 x12)) hw)
  have HW:=hide hw
  exact adf
 case true =>
  have HW:=hide hw
  have RR:=hide (show inB (cv.mk x0 x1 x2 x3 x4 x5 x6 x7 x8 x9 x10 x11 x12) ⟨3,n,i,t,lo,hi⟩=true by unfold inB;rw[hw,if_neg (show ¬(ef 3≠0) by rw[DN];simp)];simp)
  exact adf
theorem OS (n i:Int) (t:ByteArray) (lo hi:Int) (s:cv):pU 45 s ⟨8,n,i,t,lo,hi⟩:=by
 intro S q w hs hv
 obtain⟨x0,x1,x2,x3,x4,x5,x6,x7,x8,x9,x10,x11,x12⟩:=s
 have jF:=hide hs
 obtain⟨A0,c0,A1,c1,A2,c2,A3,c3,A6,c6,A7,c7,A8,c8,hq,e0,e1,e2,e3,e4,e5,e6,e7,e8,e9,e10,e11,e12,gg,hcm0,ga,hcm1,fB,hcm2,fL,fV,fW,fZ,gh,gi,gb,gd,g4,g5,g10,g11,g12,-,-,-,-,-,-,-⟩:=cG.opn hs
 clear hs
 have gM:¬q=w.heap.size:=aB
 have hts:=hv.t
 unfold maxLen at hts
 simp only at hts
 cases hw:dS ⟨8,n,i,t,lo,hi⟩
 case false =>
  have RR:=hide (gW (s:=(cv.mk x0 x1 x2 x3 x4 x5 x6 x7 x8 x9 x10 x11 x12)) hw)
  have HW:=hide hw
  exact ZA
 case true =>
  have HW:=hide hw
  have hn:=gT hw aB
  by_cases hc:n<(x0.length:Int)
  ·
   have RR:=hide (show inB (cv.mk x0 x1 x2 x3 x4 x5 x6 x7 x8 x9 x10 x11 x12) ⟨8,n,i,t,lo,hi⟩=true by unfold inB;rw[hw,if_neg (show ¬(ef 8≠0) by rw[xu];simp)];simp only[cv.ji,cv.cD,cv.gN];simp[hc])
   have dc:decide (n<(x0.length:Int))=true:=b7
   exact ZA
  ·
   have RR:=hide (show inB (cv.mk x0 x1 x2 x3 x4 x5 x6 x7 x8 x9 x10 x11 x12) ⟨8,n,i,t,lo,hi⟩=false by unfold inB;rw[hw,if_neg (show ¬(ef 8≠0) by rw[xu];simp)];simp only[cv.ji,cv.cD,cv.gN];simp[hc])
   have dc:decide (n<(x0.length:Int))=false:=b7
   exact ZA
theorem OT (n i:Int) (t:ByteArray) (lo hi:Int) (s:cv):pU 45 s ⟨9,n,i,t,lo,hi⟩:=by
 intro S q w hs hv
 obtain⟨x0,x1,x2,x3,x4,x5,x6,x7,x8,x9,x10,x11,x12⟩:=s
 have jF:=hide hs
 obtain⟨A0,c0,A1,c1,A2,c2,A3,c3,A6,c6,A7,c7,A8,c8,hq,e0,e1,e2,e3,e4,e5,e6,e7,e8,e9,e10,e11,e12,gg,hcm0,ga,hcm1,fB,hcm2,fL,fV,fW,fZ,gh,gi,gb,gd,g4,g5,g10,g11,g12,-,-,-,-,-,-,-⟩:=cG.opn hs
 clear hs
 have gM:¬q=w.heap.size:=aB
 have hts:=hv.t
 unfold maxLen at hts
 simp only at hts
 cases hw:dS ⟨9,n,i,t,lo,hi⟩
 case false =>
  have RR:=hide (gW (s:=(cv.mk x0 x1 x2 x3 x4 x5 x6 x7 x8 x9 x10 x11 x12)) hw)
  have HW:=hide hw
  exact ZB
 case true =>
  have HW:=hide hw
  have hn:=gT hw aB
  by_cases hc:n<=54
  ·
   have RR:=hide (show inB (cv.mk x0 x1 x2 x3 x4 x5 x6 x7 x8 x9 x10 x11 x12) ⟨9,n,i,t,lo,hi⟩=true by unfold inB;rw[hw,if_neg (show ¬(ef 9≠0) by rw[xv];simp)];simp only[cv.ji,cv.cD,cv.gN];simp[hc])
   have dc:decide (n<=54)=true:=b7
   exact ZB
  ·
   have RR:=hide (show inB (cv.mk x0 x1 x2 x3 x4 x5 x6 x7 x8 x9 x10 x11 x12) ⟨9,n,i,t,lo,hi⟩=false by unfold inB;rw[hw,if_neg (show ¬(ef 9≠0) by rw[xv];simp)];simp only[cv.ji,cv.cD,cv.gN];simp[hc])
   have dc:decide (n<=54)=false:=b7
   exact ZB
theorem Kn (n i:Int) (t:ByteArray) (lo hi:Int) (s:cv):pU 45 s ⟨10,n,i,t,lo,hi⟩:=by
 intro S q w hs hv
 obtain⟨x0,x1,x2,x3,x4,x5,x6,x7,x8,x9,x10,x11,x12⟩:=s
 have jF:=hide hs
 obtain⟨A0,c0,A1,c1,A2,c2,A3,c3,A6,c6,A7,c7,A8,c8,hq,e0,e1,e2,e3,e4,e5,e6,e7,e8,e9,e10,e11,e12,gg,hcm0,ga,hcm1,fB,hcm2,fL,fV,fW,fZ,gh,gi,gb,gd,g4,g5,g10,g11,g12,-,-,-,-,-,-,-⟩:=cG.opn hs
 clear hs
 have gM:¬q=w.heap.size:=aB
 have hts:=hv.t
 unfold maxLen at hts
 simp only at hts
 cases hw:dS ⟨10,n,i,t,lo,hi⟩
 case false =>
  have RR:=hide (gW (s:=(cv.mk x0 x1 x2 x3 x4 x5 x6 x7 x8 x9 x10 x11 x12)) hw)
  have HW:=hide hw
  exact ZC
 case true =>
  have HW:=hide hw
  have hn:=gT hw aB
  by_cases hc:n<(x1.length:Int)
  ·
   have RR:=hide (show inB (cv.mk x0 x1 x2 x3 x4 x5 x6 x7 x8 x9 x10 x11 x12) ⟨10,n,i,t,lo,hi⟩=true by unfold inB;rw[hw,if_neg (show ¬(ef 10≠0) by rw[tu];simp)];simp only[cv.ji,cv.cD,cv.gN];simp[hc])
   have dc:decide (n<(x1.length:Int))=true:=b7
   exact ZC
  ·
   have RR:=hide (show inB (cv.mk x0 x1 x2 x3 x4 x5 x6 x7 x8 x9 x10 x11 x12) ⟨10,n,i,t,lo,hi⟩=false by unfold inB;rw[hw,if_neg (show ¬(ef 10≠0) by rw[tu];simp)];simp only[cv.ji,cv.cD,cv.gN];simp[hc])
   have dc:decide (n<(x1.length:Int))=false:=b7
   exact ZC
theorem Ko (n i:Int) (t:ByteArray) (lo hi:Int) (s:cv):pU 45 s ⟨14,n,i,t,lo,hi⟩:=by
 intro S q w hs hv
 obtain⟨x0,x1,x2,x3,x4,x5,x6,x7,x8,x9,x10,x11,x12⟩:=s
 have jF:=hide hs
 obtain⟨A0,c0,A1,c1,A2,c2,A3,c3,A6,c6,A7,c7,A8,c8,hq,e0,e1,e2,e3,e4,e5,e6,e7,e8,e9,e10,e11,e12,gg,hcm0,ga,hcm1,fB,hcm2,fL,fV,fW,fZ,gh,gi,gb,gd,g4,g5,g10,g11,g12,-,-,-,-,-,-,-⟩:=cG.opn hs
 clear hs
 have gM:¬q=w.heap.size:=aB
 have hts:=hv.t
 unfold maxLen at hts
 simp only at hts
 cases hw:dS ⟨14,n,i,t,lo,hi⟩
 case false =>
  have RR:=hide (gW (s:=(cv.mk x0 x1 x2 x3 x4 x5 x6 x7 x8 x9 x10 x11 x12)) hw)
  have HW:=hide hw
  exact ZD
 case true =>
  have HW:=hide hw
  have hi0:=mP hw aB
  by_cases hc:i<(x3.length:Int)
  ·
   have RR:=hide (show inB (cv.mk x0 x1 x2 x3 x4 x5 x6 x7 x8 x9 x10 x11 x12) ⟨14,n,i,t,lo,hi⟩=true by unfold inB;rw[hw,if_neg (show ¬(ef 14≠0) by rw[tw];simp)];simp only[cv.ji,cv.cD,cv.gN];simp[hc])
   have dc:decide (i<(x3.length:Int))=true:=b7
   exact ZD
  ·
   have RR:=hide (show inB (cv.mk x0 x1 x2 x3 x4 x5 x6 x7 x8 x9 x10 x11 x12) ⟨14,n,i,t,lo,hi⟩=false by unfold inB;rw[hw,if_neg (show ¬(ef 14≠0) by rw[tw];simp)];simp only[cv.ji,cv.cD,cv.gN];simp[hc])
   have dc:decide (i<(x3.length:Int))=false:=b7
   exact ZD
theorem Kp (n i:Int) (t:ByteArray) (lo hi:Int) (s:cv):pU 45 s ⟨18,n,i,t,lo,hi⟩:=by
 intro S q w hs hv
 obtain⟨x0,x1,x2,x3,x4,x5,x6,x7,x8,x9,x10,x11,x12⟩:=s
 have jF:=hide hs
 obtain⟨A0,c0,A1,c1,A2,c2,A3,c3,A6,c6,A7,c7,A8,c8,hq,e0,e1,e2,e3,e4,e5,e6,e7,e8,e9,e10,e11,e12,gg,hcm0,ga,hcm1,fB,hcm2,fL,fV,fW,fZ,gh,gi,gb,gd,g4,g5,g10,g11,g12,-,-,-,-,-,-,-⟩:=cG.opn hs
 clear hs
 have gM:¬q=w.heap.size:=aB
 have hts:=hv.t
 unfold maxLen at hts
 simp only at hts
 cases hw:dS ⟨18,n,i,t,lo,hi⟩
 case false =>
  have RR:=hide (gW (s:=(cv.mk x0 x1 x2 x3 x4 x5 x6 x7 x8 x9 x10 x11 x12)) hw)
  have HW:=hide hw
  exact adg
 case true =>
  have HW:=hide hw
  have RR:=hide (show inB (cv.mk x0 x1 x2 x3 x4 x5 x6 x7 x8 x9 x10 x11 x12) ⟨18,n,i,t,lo,hi⟩=true by unfold inB;rw[hw,if_neg (show ¬(ef 18≠0) by rw[Av];simp)];simp)
  exact adg
theorem Ax (k:Int) (h:k<0\/20<k) (n i:Int) (t:ByteArray) (lo hi:Int) (s:cv):pU 45 s ⟨k,n,i,t,lo,hi⟩:=by
 intro S q w hs hv
 obtain⟨x0,x1,x2,x3,x4,x5,x6,x7,x8,x9,x10,x11,x12⟩:=s
 have jF:=hide hs
 obtain⟨A0,c0,A1,c1,A2,c2,A3,c3,A6,c6,A7,c7,A8,c8,hq,e0,e1,e2,e3,e4,e5,e6,e7,e8,e9,e10,e11,e12,gg,hcm0,ga,hcm1,fB,hcm2,fL,fV,fW,fZ,gh,gi,gb,gd,g4,g5,g10,g11,g12,-,-,-,-,-,-,-⟩:=cG.opn hs
 clear hs
 have gM:¬q=w.heap.size:=aB
 have hts:=hv.t
 unfold maxLen at hts
 simp only at hts
 cases hw:dS ⟨k,n,i,t,lo,hi⟩
 case false =>
  exact WQ
 case true =>
  exfalso
  exact WR
abbrev WS (f:FuncId) (s:cv) (v:cV):Prop:=∀(S:Nat->Prop) (q:Nat) (w:World),cG w S q s->v.Ok ->
 Calls Tryz.prog f #[.pointer (some ⟨q,0,none⟩),.agg #[.int .i64 v.k,.int .i64 v.n,.int .i64 v.i,.string v.t,.int .i64 v.lo,.int .i64 v.hi]] w fun e w'=>e=.returned (.bool (iX s v))/\cE w w'
end Go.Proofs.YtjngkknbpfgdcaaGreatDoor
