import Derived.Test.YtjngkknbpfgdcaaGreatDoorVvShelf
set_option linter.unusedVariables false
set_option linter.unusedSimpArgs false
set_option maxRecDepth 100000
set_option maxHeartbeats 8000000
namespace Go.Proofs.YtjngkknbpfgdcaaGreatDoor
open Go.RowKit Go.Proofs.Tryz
--%quiet
theorem FM:dP 0=0:=by decide
theorem FN:dP 1=0:=by decide
theorem FO:dP 2=0:=by decide
theorem FP:dP 3=0:=by decide
theorem qI:dP 4=2:=by decide
theorem mM:dP 5=3:=by decide
theorem qJ:dP 6=4:=by decide
theorem qL:dP 7=5:=by decide
theorem ys:dP 8=0:=by decide
theorem yt:dP 9=0:=by decide
theorem ue:dP 10=0:=by decide
theorem oD:dP 11=6:=by decide
theorem oE:dP 12=7:=by decide
theorem mC:dP 13=1:=by decide
theorem ug:dP 14=0:=by decide
theorem oF:dP 15=2:=by decide
theorem mD:dP 16=5:=by decide
theorem lg:dP 17=8:=by decide
theorem BV:dP 18=0:=by decide
theorem oG:dP 19=1:=by decide
theorem oH:dP 20=9:=by decide
def hasB (s:O) (n kind:Int):Bool:=decide (0<=n)&&(match s.objects[n.toNat]? with | some o=>decide (o.kind=kind) | none=>false)
theorem il {k n i:Int} {t:cx} {lo hi:Int} (hw:dD ⟨k,n,i,t,lo,hi⟩=true) (hk:k=4\/k=5\/k=6\/k=7\/k=8\/k=9\/k=10\/k=11\/k=12\/k=13\/k=15\/k=16\/k=17\/k=19\/k=20):0<=n:=by
 unfold dD at hw
 rcases hk with rfl | rfl | rfl | rfl | rfl | rfl | rfl | rfl | rfl | rfl | rfl | rfl | rfl | rfl | rfl <;> simp at hw <;> omega
theorem jr {k n i:Int} {t:cx} {lo hi:Int} (hw:dD ⟨k,n,i,t,lo,hi⟩=true) (hk:k=13\/k=14\/k=15\/k=16):0<=i:=by
 unfold dD at hw
 rcases hk with rfl | rfl | rfl | rfl <;> simp at hw <;> omega
theorem ix {s:O} {v:cC} (h:dD v=false):eE s v=false:=by unfold eE;rw[h];rfl
theorem ie {s:O} {v:cC} (h:dD v=true) (hk:dP v.k≠0):eE s v=pJ s v:=by unfold eE;rw[h,if_pos hk];rfl
theorem jR {s:O} {v:cC} (h:s.objects.length<=v.n.toNat):pJ s v=false:=by
 unfold pJ;rw[List.getElem?_eq_none h]
theorem jm {s:O} {v:cC} {o:cr} (h:v.n.toNat<s.objects.length) (ho:s.objects[v.n.toNat]=o):pJ s v=(decide (o.kind=dP v.k)&&(if v.k=13\/v.k=16 then decide (v.i<(o.items.length:Int)) else true)):=by
 unfold pJ;rw[List.getElem?_eq_getElem h,ho]
theorem FR {s:O} {n kd:Int} (h:s.objects.length<=n.toNat):hasB s n kd=false:=by
 unfold hasB;rw[List.getElem?_eq_none h];simp
theorem BW {s:O} {n kd:Int} {o:cr} (h0:0<=n) (h:n.toNat<s.objects.length) (ho:s.objects[n.toNat]=o):hasB s n kd=decide (o.kind=kd):=by
 unfold hasB;rw[List.getElem?_eq_getElem h,ho,ay h0];rfl
theorem ll {s:O} {v:cC} (h0:0<=v.n) (hk:¬(v.k=13\/v.k=16)):pJ s v=hasB s v.n (dP v.k):=by
 unfold pJ hasB
 rw[ay h0,Bool.true_and]
 cases s.objects[v.n.toNat]? with
 | none=>rfl
 | some o=>simp only[if_neg hk,Bool.and_true]
abbrev qx (f:FuncId) (s:O) (v:cC):Prop:=∀(S:Nat->Prop) (q:Nat) (w:World),cv w S q s->v.Ok ->
 Calls prog f #[.pointer (some ⟨q,0,none⟩),.agg #[.int .i64 v.k,.int .i64 v.n,.int .i64 v.i,.string v.t,.int .i64 v.lo,.int .i64 v.hi]] w fun e w'=>e=.returned (.bool (eE s v))/\U w w'
theorem dF (k:Int) (w:World):Calls prog 108 #[.int .i64 k] w fun e w'=>e=.returned (.int .i64 (dP k))/\w=w':=by
 unfold dP
 go_enter func108,ntmps108
 go_wp2
 all_goals
  go_returns
  go_light
  refine⟨?_,rfl⟩
  simp only[Array.getD_eq_getD_getElem?,List.getElem?_toArray,List.getElem?_cons_succ,List.getElem?_cons_zero,Option.getD_some]
  first | done | (simp_all;done) | (simp_all;omega)
theorem QN (n i:Int) (t:cx) (lo hi:Int) (s:O):qx 45 s ⟨0,n,i,t,lo,hi⟩:=by
 intro S q w hs hv
 obtain⟨x0,x1,x2,x3,x4,x5,x6,x7,x8,x9,F,G,Z⟩:=s
 have js:=I hs
 obtain⟨A0,c0,A1,c1,A2,c2,A3,c3,A6,c6,A7,c7,A8,c8,hq,e0,e1,e2,e3,e4,e5,e6,e7,e8,e9,iE,jc,jd,fj,fm,fa,fb,ew,eL,eK,eV,eX,eY,fp,fq,fc,ff,g4,g5,g10,g11,g12,-,-,-,-,-,-,-⟩:=cv.j8 hs
 clear hs
 have ga:¬q=w.heap.size:=aF
 have fx:=hv.t
 unfold maxLen at fx
 simp only at fx
 cases hw:dD ⟨0,n,i,t,lo,hi⟩
 case false =>
  exact Yf
 case true =>
  have HW:=I hw
  have RR:=I (show eE (O.mk x0 x1 x2 x3 x4 x5 x6 x7 x8 x9 F G Z) ⟨0,n,i,t,lo,hi⟩=true by unfold eE;rw[hw,if_neg (show ¬(dP 0≠0) by rw[FM];simp)];simp)
  exact ags
theorem QO (n i:Int) (t:cx) (lo hi:Int) (s:O):qx 45 s ⟨1,n,i,t,lo,hi⟩:=by
 intro S q w hs hv
 obtain⟨x0,x1,x2,x3,x4,x5,x6,x7,x8,x9,F,G,Z⟩:=s
 have js:=I hs
 obtain⟨A0,c0,A1,c1,A2,c2,A3,c3,A6,c6,A7,c7,A8,c8,hq,e0,e1,e2,e3,e4,e5,e6,e7,e8,e9,iE,jc,jd,fj,fm,fa,fb,ew,eL,eK,eV,eX,eY,fp,fq,fc,ff,g4,g5,g10,g11,g12,-,-,-,-,-,-,-⟩:=cv.j8 hs
 clear hs
 have ga:¬q=w.heap.size:=aF
 have fx:=hv.t
 unfold maxLen at fx
 simp only at fx
 cases hw:dD ⟨1,n,i,t,lo,hi⟩
 case false =>
  have RR:=I (ix (s:=(O.mk x0 x1 x2 x3 x4 x5 x6 x7 x8 x9 F G Z)) hw)
  have HW:=I hw
  exact agt
 case true =>
  have HW:=I hw
  have RR:=I (show eE (O.mk x0 x1 x2 x3 x4 x5 x6 x7 x8 x9 F G Z) ⟨1,n,i,t,lo,hi⟩=true by unfold eE;rw[hw,if_neg (show ¬(dP 1≠0) by rw[FN];simp)];simp)
  exact agt
theorem QP (n i:Int) (t:cx) (lo hi:Int) (s:O):qx 45 s ⟨2,n,i,t,lo,hi⟩:=by
 intro S q w hs hv
 obtain⟨x0,x1,x2,x3,x4,x5,x6,x7,x8,x9,F,G,Z⟩:=s
 have js:=I hs
 obtain⟨A0,c0,A1,c1,A2,c2,A3,c3,A6,c6,A7,c7,A8,c8,hq,e0,e1,e2,e3,e4,e5,e6,e7,e8,e9,iE,jc,jd,fj,fm,fa,fb,ew,eL,eK,eV,eX,eY,fp,fq,fc,ff,g4,g5,g10,g11,g12,-,-,-,-,-,-,-⟩:=cv.j8 hs
 clear hs
 have ga:¬q=w.heap.size:=aF
 have fx:=hv.t
 unfold maxLen at fx
 simp only at fx
 cases hw:dD ⟨2,n,i,t,lo,hi⟩
 case false =>
  have RR:=I (ix (s:=(O.mk x0 x1 x2 x3 x4 x5 x6 x7 x8 x9 F G Z)) hw)
  have HW:=I hw
  exact agu
 case true =>
  have HW:=I hw
  have RR:=I (show eE (O.mk x0 x1 x2 x3 x4 x5 x6 x7 x8 x9 F G Z) ⟨2,n,i,t,lo,hi⟩=true by unfold eE;rw[hw,if_neg (show ¬(dP 2≠0) by rw[FO];simp)];simp)
  exact agu
theorem QQ (n i:Int) (t:cx) (lo hi:Int) (s:O):qx 45 s ⟨3,n,i,t,lo,hi⟩:=by
 intro S q w hs hv
 obtain⟨x0,x1,x2,x3,x4,x5,x6,x7,x8,x9,F,G,Z⟩:=s
 have js:=I hs
 obtain⟨A0,c0,A1,c1,A2,c2,A3,c3,A6,c6,A7,c7,A8,c8,hq,e0,e1,e2,e3,e4,e5,e6,e7,e8,e9,iE,jc,jd,fj,fm,fa,fb,ew,eL,eK,eV,eX,eY,fp,fq,fc,ff,g4,g5,g10,g11,g12,-,-,-,-,-,-,-⟩:=cv.j8 hs
 clear hs
 have ga:¬q=w.heap.size:=aF
 have fx:=hv.t
 unfold maxLen at fx
 simp only at fx
 cases hw:dD ⟨3,n,i,t,lo,hi⟩
 case false =>
  have RR:=I (ix (s:=(O.mk x0 x1 x2 x3 x4 x5 x6 x7 x8 x9 F G Z)) hw)
  have HW:=I hw
  exact agv
 case true =>
  have HW:=I hw
  have RR:=I (show eE (O.mk x0 x1 x2 x3 x4 x5 x6 x7 x8 x9 F G Z) ⟨3,n,i,t,lo,hi⟩=true by unfold eE;rw[hw,if_neg (show ¬(dP 3≠0) by rw[FP];simp)];simp)
  exact agv
theorem QR (n i:Int) (t:cx) (lo hi:Int) (s:O):qx 45 s ⟨8,n,i,t,lo,hi⟩:=by
 intro S q w hs hv
 obtain⟨x0,x1,x2,x3,x4,x5,x6,x7,x8,x9,F,G,Z⟩:=s
 have js:=I hs
 obtain⟨A0,c0,A1,c1,A2,c2,A3,c3,A6,c6,A7,c7,A8,c8,hq,e0,e1,e2,e3,e4,e5,e6,e7,e8,e9,iE,jc,jd,fj,fm,fa,fb,ew,eL,eK,eV,eX,eY,fp,fq,fc,ff,g4,g5,g10,g11,g12,-,-,-,-,-,-,-⟩:=cv.j8 hs
 clear hs
 have ga:¬q=w.heap.size:=aF
 have fx:=hv.t
 unfold maxLen at fx
 simp only at fx
 cases hw:dD ⟨8,n,i,t,lo,hi⟩
 case false =>
  have RR:=I (ix (s:=(O.mk x0 x1 x2 x3 x4 x5 x6 x7 x8 x9 F G Z)) hw)
  have HW:=I hw
  exact abq
 case true =>
  have HW:=I hw
  have hn:=il hw aF
  by_cases hc:n<(x0.length:Int)
  ·
   have RR:=I (show eE (O.mk x0 x1 x2 x3 x4 x5 x6 x7 x8 x9 F G Z) ⟨8,n,i,t,lo,hi⟩=true by unfold eE;rw[hw,if_neg (show ¬(dP 8≠0) by rw[ys];simp)];simp only[O.jH,O.cu,O.fy];simp[hc])
   have dc:decide (n<(x0.length:Int))=true:=bV
   exact abq
  ·
   have RR:=I (show eE (O.mk x0 x1 x2 x3 x4 x5 x6 x7 x8 x9 F G Z) ⟨8,n,i,t,lo,hi⟩=false by unfold eE;rw[hw,if_neg (show ¬(dP 8≠0) by rw[ys];simp)];simp only[O.jH,O.cu,O.fy];simp[hc])
   have dc:decide (n<(x0.length:Int))=false:=bV
   exact abq
theorem QS (n i:Int) (t:cx) (lo hi:Int) (s:O):qx 45 s ⟨9,n,i,t,lo,hi⟩:=by
 intro S q w hs hv
 obtain⟨x0,x1,x2,x3,x4,x5,x6,x7,x8,x9,F,G,Z⟩:=s
 have js:=I hs
 obtain⟨A0,c0,A1,c1,A2,c2,A3,c3,A6,c6,A7,c7,A8,c8,hq,e0,e1,e2,e3,e4,e5,e6,e7,e8,e9,iE,jc,jd,fj,fm,fa,fb,ew,eL,eK,eV,eX,eY,fp,fq,fc,ff,g4,g5,g10,g11,g12,-,-,-,-,-,-,-⟩:=cv.j8 hs
 clear hs
 have ga:¬q=w.heap.size:=aF
 have fx:=hv.t
 unfold maxLen at fx
 simp only at fx
 cases hw:dD ⟨9,n,i,t,lo,hi⟩
 case false =>
  have RR:=I (ix (s:=(O.mk x0 x1 x2 x3 x4 x5 x6 x7 x8 x9 F G Z)) hw)
  have HW:=I hw
  exact abr
 case true =>
  have HW:=I hw
  have hn:=il hw aF
  by_cases hc:n<=54
  ·
   have RR:=I (show eE (O.mk x0 x1 x2 x3 x4 x5 x6 x7 x8 x9 F G Z) ⟨9,n,i,t,lo,hi⟩=true by unfold eE;rw[hw,if_neg (show ¬(dP 9≠0) by rw[yt];simp)];simp only[O.jH,O.cu,O.fy];simp[hc])
   have dc:decide (n<=54)=true:=bV
   exact abr
  ·
   have RR:=I (show eE (O.mk x0 x1 x2 x3 x4 x5 x6 x7 x8 x9 F G Z) ⟨9,n,i,t,lo,hi⟩=false by unfold eE;rw[hw,if_neg (show ¬(dP 9≠0) by rw[yt];simp)];simp only[O.jH,O.cu,O.fy];simp[hc])
   have dc:decide (n<=54)=false:=bV
   exact abr
theorem MX (n i:Int) (t:cx) (lo hi:Int) (s:O):qx 45 s ⟨10,n,i,t,lo,hi⟩:=by
 intro S q w hs hv
 obtain⟨x0,x1,x2,x3,x4,x5,x6,x7,x8,x9,F,G,Z⟩:=s
 have js:=I hs
 obtain⟨A0,c0,A1,c1,A2,c2,A3,c3,A6,c6,A7,c7,A8,c8,hq,e0,e1,e2,e3,e4,e5,e6,e7,e8,e9,iE,jc,jd,fj,fm,fa,fb,ew,eL,eK,eV,eX,eY,fp,fq,fc,ff,g4,g5,g10,g11,g12,-,-,-,-,-,-,-⟩:=cv.j8 hs
 clear hs
 have ga:¬q=w.heap.size:=aF
 have fx:=hv.t
 unfold maxLen at fx
 simp only at fx
 cases hw:dD ⟨10,n,i,t,lo,hi⟩
 case false =>
  have RR:=I (ix (s:=(O.mk x0 x1 x2 x3 x4 x5 x6 x7 x8 x9 F G Z)) hw)
  have HW:=I hw
  exact abt
 case true =>
  have HW:=I hw
  have hn:=il hw aF
  by_cases hc:n<(x1.length:Int)
  ·
   have RR:=I (show eE (O.mk x0 x1 x2 x3 x4 x5 x6 x7 x8 x9 F G Z) ⟨10,n,i,t,lo,hi⟩=true by unfold eE;rw[hw,if_neg (show ¬(dP 10≠0) by rw[ue];simp)];simp only[O.jH,O.cu,O.fy];simp[hc])
   have dc:decide (n<(x1.length:Int))=true:=bV
   exact abt
  ·
   have RR:=I (show eE (O.mk x0 x1 x2 x3 x4 x5 x6 x7 x8 x9 F G Z) ⟨10,n,i,t,lo,hi⟩=false by unfold eE;rw[hw,if_neg (show ¬(dP 10≠0) by rw[ue];simp)];simp only[O.jH,O.cu,O.fy];simp[hc])
   have dc:decide (n<(x1.length:Int))=false:=bV
   exact abt
theorem MY (n i:Int) (t:cx) (lo hi:Int) (s:O):qx 45 s ⟨14,n,i,t,lo,hi⟩:=by
 intro S q w hs hv
 obtain⟨x0,x1,x2,x3,x4,x5,x6,x7,x8,x9,F,G,Z⟩:=s
 have js:=I hs
 obtain⟨A0,c0,A1,c1,A2,c2,A3,c3,A6,c6,A7,c7,A8,c8,hq,e0,e1,e2,e3,e4,e5,e6,e7,e8,e9,iE,jc,jd,fj,fm,fa,fb,ew,eL,eK,eV,eX,eY,fp,fq,fc,ff,g4,g5,g10,g11,g12,-,-,-,-,-,-,-⟩:=cv.j8 hs
 clear hs
 have ga:¬q=w.heap.size:=aF
 have fx:=hv.t
 unfold maxLen at fx
 simp only at fx
 cases hw:dD ⟨14,n,i,t,lo,hi⟩
 case false =>
  have RR:=I (ix (s:=(O.mk x0 x1 x2 x3 x4 x5 x6 x7 x8 x9 F G Z)) hw)
  have HW:=I hw
  exact abu
 case true =>
  have HW:=I hw
  have jh:=jr hw aF
  by_cases hc:i<(x3.length:Int)
  ·
   have RR:=I (show eE (O.mk x0 x1 x2 x3 x4 x5 x6 x7 x8 x9 F G Z) ⟨14,n,i,t,lo,hi⟩=true by unfold eE;rw[hw,if_neg (show ¬(dP 14≠0) by rw[ug];simp)];simp only[O.jH,O.cu,O.fy];simp[hc])
   have dc:decide (i<(x3.length:Int))=true:=bV
   exact abu
  ·
   have RR:=I (show eE (O.mk x0 x1 x2 x3 x4 x5 x6 x7 x8 x9 F G Z) ⟨14,n,i,t,lo,hi⟩=false by unfold eE;rw[hw,if_neg (show ¬(dP 14≠0) by rw[ug];simp)];simp only[O.jH,O.cu,O.fy];simp[hc])
   have dc:decide (i<(x3.length:Int))=false:=bV
   exact abu
theorem MZ (n i:Int) (t:cx) (lo hi:Int) (s:O):qx 45 s ⟨18,n,i,t,lo,hi⟩:=by
 intro S q w hs hv
 obtain⟨x0,x1,x2,x3,x4,x5,x6,x7,x8,x9,F,G,Z⟩:=s
 have js:=I hs
 obtain⟨A0,c0,A1,c1,A2,c2,A3,c3,A6,c6,A7,c7,A8,c8,hq,e0,e1,e2,e3,e4,e5,e6,e7,e8,e9,iE,jc,jd,fj,fm,fa,fb,ew,eL,eK,eV,eX,eY,fp,fq,fc,ff,g4,g5,g10,g11,g12,-,-,-,-,-,-,-⟩:=cv.j8 hs
 clear hs
 have ga:¬q=w.heap.size:=aF
 have fx:=hv.t
 unfold maxLen at fx
 simp only at fx
 cases hw:dD ⟨18,n,i,t,lo,hi⟩
 case false =>
  have RR:=I (ix (s:=(O.mk x0 x1 x2 x3 x4 x5 x6 x7 x8 x9 F G Z)) hw)
  have HW:=I hw
  exact agw
 case true =>
  have HW:=I hw
  have RR:=I (show eE (O.mk x0 x1 x2 x3 x4 x5 x6 x7 x8 x9 F G Z) ⟨18,n,i,t,lo,hi⟩=true by unfold eE;rw[hw,if_neg (show ¬(dP 18≠0) by rw[BV];simp)];simp)
  exact agw
theorem BZ (k:Int) (h:k<0\/20<k) (n i:Int) (t:cx) (lo hi:Int) (s:O):qx 45 s ⟨k,n,i,t,lo,hi⟩:=by
 intro S q w hs hv
 obtain⟨x0,x1,x2,x3,x4,x5,x6,x7,x8,x9,F,G,Z⟩:=s
 have js:=I hs
 obtain⟨A0,c0,A1,c1,A2,c2,A3,c3,A6,c6,A7,c7,A8,c8,hq,e0,e1,e2,e3,e4,e5,e6,e7,e8,e9,iE,jc,jd,fj,fm,fa,fb,ew,eL,eK,eV,eX,eY,fp,fq,fc,ff,g4,g5,g10,g11,g12,-,-,-,-,-,-,-⟩:=cv.j8 hs
 clear hs
 have ga:¬q=w.heap.size:=aF
 have fx:=hv.t
 unfold maxLen at fx
 simp only at fx
 cases hw:dD ⟨k,n,i,t,lo,hi⟩
 case false =>
  exact Yf
 case true =>
  exfalso
  exact Yg
abbrev Yh (f:FuncId) (s:O) (v:cC):Prop:=∀(S:Nat->Prop) (q:Nat) (w:World),cv w S q s->v.Ok ->
 Calls prog f #[.pointer (some ⟨q,0,none⟩),.agg #[.int .i64 v.k,.int .i64 v.n,.int .i64 v.i,.string v.t,.int .i64 v.lo,.int .i64 v.hi]] w fun e w'=>e=.returned (.bool (gn s v))/\U w w'
end Go.Proofs.YtjngkknbpfgdcaaGreatDoor
