/- The walk of FnExactCopyValue. -/
import Derived.Test.YtppmgodahloogaaGreatDoorPr
import Derived.Test.YtppmgodahloogaaGreatDoorPKf
import Derived.Test.YtppmgodahloogaaGreatDoorPK2b
import Derived.Test.YtppmgodahloogaaGreatDoorPHStore
import Derived.Deep.RegionHeld3
namespace Go.Proofs.YtppmgodahloogaaGreatDoor
set_option linter.unusedVariables false
set_option linter.unusedSimpArgs false
set_option maxRecDepth 100000
open Go.RowKit
structure CwF (w0 w:World) (bA bV bW bX bG bY:Nat) (a0 a1 a2 a3 a4 a5 a6 a7 a8 a9 a10 a11 a12:Value) (k n i:Int) (t:ByteArray) (lo hi:Int) (v0 v1 v2 v3 v4 v5 v6 v7 v8 v9 v10 v11 v12:Value) (rk rn ri:Int) (rt:ByteArray) (rlo rhi:Int) (u0 u1 u2 u3 u4 u5 u6 u7 u8 u9 u10 u11 u12:Value) (LW:List Nat) (D:List Dat):Prop where
 bel:Bel w0 w
 pa:SB w bA a0 a1 a2 a3 a4 a5 a6 a7 a8 a9 a10 a11 a12
 pv:VB w bV k n i t lo hi
 sw:SB w bW v0 v1 v2 v3 v4 v5 v6 v7 v8 v9 v10 v11 v12
 xw:VB w bX rk rn ri rt rlo rhi
 sg:SB w bG u0 u1 u2 u3 u4 u5 u6 u7 u8 u9 u10 u11 u12
 yg:VB w bY rk rn ri rt rlo rhi
 ow:Dat.OwnVals w LW D [v0,v1,v2,v3,v4,v5,v6,v7,v8,v9,v10,v11,v12]
section
variable {w0 w w':World} {bA bV bW bX bG bY:Nat} {a0 a1 a2 a3 a4 a5 a6 a7 a8 a9 a10 a11 a12 v0 v1 v2 v3 v4 v5 v6 v7 v8 v9 v10 v11 v12 u0 u1 u2 u3 u4 u5 u6 u7 u8 u9 u10 u11 u12:Value} {k n i lo hi rk rn ri rlo rhi:Int} {t rt:ByteArray} {LW:List Nat} {D:List Dat}
theorem CwF.on (h:CwF w0 w bA bV bW bX bG bY a0 a1 a2 a3 a4 a5 a6 a7 a8 a9 a10 a11 a12 k n i t lo hi v0 v1 v2 v3 v4 v5 v6 v7 v8 v9 v10 v11 v12 rk rn ri rt rlo rhi u0 u1 u2 u3 u4 u5 u6 u7 u8 u9 u10 u11 u12 LW D) (k':Bel w w'):CwF w0 w' bA bV bW bX bG bY a0 a1 a2 a3 a4 a5 a6 a7 a8 a9 a10 a11 a12 k n i t lo hi v0 v1 v2 v3 v4 v5 v6 v7 v8 v9 v10 v11 v12 rk rn ri rt rlo rhi u0 u1 u2 u3 u4 u5 u6 u7 u8 u9 u10 u11 u12 LW D:=⟨h.bel.trans k',h.pa.on k',h.pv.on k',h.sw.on k',h.xw.on k',h.sg.on k',h.yg.on k',h.ow.bel k'⟩
theorem CwF.off {S:Nat→Prop} (h:CwF w0 w bA bV bW bX bG bY a0 a1 a2 a3 a4 a5 a6 a7 a8 a9 a10 a11 a12 k n i t lo hi v0 v1 v2 v3 v4 v5 v6 v7 v8 v9 v10 v11 v12 rk rn ri rt rlo rhi u0 u1 u2 u3 u4 u5 u6 u7 u8 u9 u10 u11 u12 LW D) (k':OffS S w w') (h0:∀x,x<w0.heap.size→S x) (hb:∀x,x=bA∨x=bV∨x=bW∨x=bX∨x=bG∨x=bY→S x) (hL:∀x,x∈LW→S x):CwF w0 w' bA bV bW bX bG bY a0 a1 a2 a3 a4 a5 a6 a7 a8 a9 a10 a11 a12 k n i t lo hi v0 v1 v2 v3 v4 v5 v6 v7 v8 v9 v10 v11 v12 rk rn ri rt rlo rhi u0 u1 u2 u3 u4 u5 u6 u7 u8 u9 u10 u11 u12 LW D :=
 ⟨k'.toBel h.bel h0,h.pa.block k'.size (k'.block bA (hb _ (by simp)) h.pa.1),h.pv.block k'.size (k'.block bV (hb _ (by simp)) h.pv.1),h.sw.block k'.size (k'.block bW (hb _ (by simp)) h.sw.1),h.xw.block k'.size (k'.block bX (hb _ (by simp)) h.xw.1),h.sg.block k'.size (k'.block bG (hb _ (by simp)) h.sg.1),h.yg.block k'.size (k'.block bY (hb _ (by simp)) h.yg.1),h.ow.offS k' hL⟩
end
theorem eqv_same (k n i:Int) (t:ByteArray) (lo hi:Int) (w:World):Calls Tryz.prog 11 #[.agg #[.int .i64 k,.int .i64 n,.int .i64 i,.string t,.int .i64 lo,.int .i64 hi],.agg #[.int .i64 k,.int .i64 n,.int .i64 i,.string t,.int .i64 lo,.int .i64 hi]] w fun e w'=>e=.returned (.bool true)∧Bel w w':=by
 have h:=eqValue_any ⟨k,n,i,t,lo,hi⟩ ⟨k,n,i,t,lo,hi⟩ w
 rw[VVal.eqB_self]at h
 exact h
set_option maxRecDepth 8000 in
set_option maxHeartbeats 8000000 in
theorem FnExactCopyValue_walk (s0:TStore) (vs0:List Value) (v:VVal) (w:World) (hv0:Dat.HoldVals w (fun _=>True) s0.D vs0) (hx:v.Ok) (htab:Sp w) :
  Calls Tryz.prog 3 #[.agg vs0.toArray,v.val] w fun e w'=>e=.returned (.bool true)∧Bel w w':=by
 have HT:=hide htab
 have HX:=hide hx
 have hts:=hx.t
 unfold maxLen at hts
 have HV:=hide hv0
 clear htab hx
 obtain⟨x0,x1,x2,x3,x4,x5,x6,x7,x8,x9,x10,x11,x12⟩:=s0
 obtain⟨A0,c0,A1,c1,A2,c2,A3,c3,A6,c6,A7,c7,A8,c8,rfl,-⟩:=TStore.vals hv0
 clear hv0
 obtain⟨k,n,i,t,lo,hi⟩:=v
 simp only[VVal.val]at hts ⊢
 obtain⟨T,hT⟩:∃T,copT (TStore.mk x0 x1 x2 x3 x4 x5 x6 x7 x8 x9 x10 x11 x12) (tvOf ⟨k,n,i,t,lo,hi⟩)=T:=⟨_,rfl⟩
 have hwt:=copT_wt (TStore.mk x0 x1 x2 x3 x4 x5 x6 x7 x8 x9 x10 x11 x12) (tvOf ⟨k,n,i,t,lo,hi⟩)
 rw[hT]at hwt
 obtain⟨ok,hok⟩:∃q,copOk (TStore.mk x0 x1 x2 x3 x4 x5 x6 x7 x8 x9 x10 x11 x12) (tvOf ⟨k,n,i,t,lo,hi⟩)=q:=⟨_,rfl⟩
 obtain⟨R,hR⟩:∃q,(copW (TStore.mk x0 x1 x2 x3 x4 x5 x6 x7 x8 x9 x10 x11 x12) (tvOf ⟨k,n,i,t,lo,hi⟩)).v=q:=⟨_,rfl⟩
 have HN:=hide hT
 have HO:=hide hok
 have HR:=hide hR
 clear hT hok hR
 obtain⟨y0,y1,y2,y3,y4,y5,y6,y7,y8,y9,y10,y11,y12⟩:=T
 obtain⟨rk,rn,ri,rt,rlo,rhi⟩:=R
 have hrc:=TStore.rcnt_le (TStore.mk y0 y1 y2 y3 y4 y5 y6 y7 y8 y9 y10 y11 y12)
 obtain⟨m0,hm0⟩:∃m:Nat,m=Dat.wtL (TStore.mk x0 x1 x2 x3 x4 x5 x6 x7 x8 x9 x10 x11 x12).D:=⟨_,rfl⟩
 obtain⟨m1,hm1⟩:∃m:Nat,m=t.size:=⟨_,rfl⟩
 have hoo:(ok != ok)=false:=by simp
 have hc0:0≤(1048576:Int):=by omega
 rcases Int.lt_or_le (1048576:Int) (m0:Int)with hq0 | hq0
 ·
  have HZ0:=hide (show szL (Dat.wtL (TStore.mk x0 x1 x2 x3 x4 x5 x6 x7 x8 x9 x10 x11 x12).D) (1048576:Int) = -1 from szL_no (by omega))
  clear hq0 hm0 hm1
  go_enter Tryz.func3,Tryz.ntmps3
  go_wp2_with (go_at_call 4;refine (szStore_any _ _ _ _ _ (Dat.HoldVals.bel bl HV.out) (by omega) (by omega)).mono ?_;rintro e w1 ⟨rfl,hb1⟩;rw[HZ0.out];(have hz1:=hb1.sz;obtain⟨hk1_0,hf1_0,hl1_0,hn1_0⟩:=hb1.lay (w.heap.size);obtain⟨hk1_1,hf1_1,hl1_1,hn1_1⟩:=hb1.lay (w.heap.size+1)))
  all_goals
   go_returns
   exact⟨rfl,bl⟩
 have HZ0:=hide (show szL (Dat.wtL (TStore.mk x0 x1 x2 x3 x4 x5 x6 x7 x8 x9 x10 x11 x12).D) (1048576:Int)=(1048576:Int) - (m0:Int)from by rw[szL_yes (by omega),hm0])
 have hws:Dat.wtL (TStore.mk x0 x1 x2 x3 x4 x5 x6 x7 x8 x9 x10 x11 x12).D≤1048576:=by omega
 have HS0:=hide hws
 have HCN:=hide (show (1:Int)+(TStore.rcnt (TStore.mk x0 x1 x2 x3 x4 x5 x6 x7 x8 x9 x10 x11 x12):Nat)≤4611686018427387904 by have:=TStore.rcnt_le (TStore.mk x0 x1 x2 x3 x4 x5 x6 x7 x8 x9 x10 x11 x12);omega)
 obtain⟨q,hq⟩:∃q,TStore.rcnt (TStore.mk y0 y1 y2 y3 y4 y5 y6 y7 y8 y9 y10 y11 y12)=q:=⟨_,rfl⟩
 have HQ:=hide hq
 obtain⟨q0,hq0r⟩:∃q,TStore.rcnt (TStore.mk x0 x1 x2 x3 x4 x5 x6 x7 x8 x9 x10 x11 x12)=q:=⟨_,rfl⟩
 have HQ0:=hide hq0r
 clear hq0r
 have hqb:q≤33554448:=by omega
 have HCL:=hide (show (1:Int)+(TStore.rcnt (TStore.mk y0 y1 y2 y3 y4 y5 y6 y7 y8 y9 y10 y11 y12):Nat)≤4611686018427387904 by omega)
 have dz0:decide ((1048576:Int) - (m0:Int)<0)=false:=by simp;omega
 rcases Int.lt_or_le ((1048576:Int) - (m0:Int)) (m1:Int)with hq1 | hq1
 ·
  have HZ1:=hide (show szV t ((1048576:Int) - (m0:Int)) = -1 from by unfold szV;rw[if_pos (by omega)])
  clear hq1 hm0 hm1 hwt hrc hq hqb hws hc0
  generalize hmm:(1048576:Int) - (m0:Int)=mm at *
  have hmm0:0≤mm:=by omega
  have hmm1:mm≤1048576:=by omega
  clear hq0 hmm
  go_enter Tryz.func3,Tryz.ntmps3
  go_wp2_with (first | (go_at_call 4;refine (szStore_any _ _ _ _ _ (Dat.HoldVals.bel bl HV.out) (by omega) (by omega)).mono ?_;rintro e w1 ⟨rfl,hb1⟩;rw[HZ0.out];(have hz1:=hb1.sz;obtain⟨hk1_0,hf1_0,hl1_0,hn1_0⟩:=hb1.lay (w.heap.size);obtain⟨hk1_1,hf1_1,hl1_1,hn1_1⟩:=hb1.lay (w.heap.size+1))) | (go_at_call 5;refine (szValue_any ⟨k,n,i,t,lo,hi⟩ _ _ (by omega) (by omega) HX.out.t).mono ?_;rintro e w2 ⟨rfl,hb2⟩;rw[HZ1.out];(have hz2:=hb2.sz;obtain⟨hk2_0,hf2_0,hl2_0,hn2_0⟩:=hb2.lay (w.heap.size);obtain⟨hk2_1,hf2_1,hl2_1,hn2_1⟩:=hb2.lay (w.heap.size+1))))
  all_goals
   go_returns
   exact⟨rfl,bl⟩
 have HZ1:=hide (show szV t ((1048576:Int) - (m0:Int))=(1048576:Int) - (m0:Int) - (m1:Int)from by unfold szV;rw[if_neg (by omega)];omega)
 have dz1:decide ((1048576:Int) - (m0:Int) - (m1:Int)<0)=false:=by simp;omega
 clear hm0 hm1 hwt hrc hq hws hc0
 generalize hmm:(1048576:Int) - (m0:Int)=mm at *
 have hmm0:0≤mm:=by omega
 have hmm1:mm≤1048576:=by omega
 generalize hm2:mm - (m1:Int)=m2 at *
 clear hq0 hq1 hmm hm2
 go_enter Tryz.func3,Tryz.ntmps3
 go_upto_region 8 with (first | (go_at_call 4;refine (szStore_any _ _ _ _ _ (Dat.HoldVals.bel bl HV.out) (by omega) (by omega)).mono ?_;rintro e w1 ⟨rfl,hb1⟩;rw[HZ0.out];(have hz1:=hb1.sz;obtain⟨hk1_0,hf1_0,hl1_0,hn1_0⟩:=hb1.lay (w.heap.size);obtain⟨hk1_1,hf1_1,hl1_1,hn1_1⟩:=hb1.lay (w.heap.size+1))) | (go_at_call 5;refine (szValue_any ⟨k,n,i,t,lo,hi⟩ _ _ (by omega) (by omega) HX.out.t).mono ?_;rintro e w2 ⟨rfl,hb2⟩;rw[HZ1.out];(have hz2:=hb2.sz;obtain⟨hk2_0,hf2_0,hl2_0,hn2_0⟩:=hb2.lay (w.heap.size);obtain⟨hk2_1,hf2_1,hl2_1,hn2_1⟩:=hb2.lay (w.heap.size+1))))
 refine wp_named2 fun wr hwr=>?_
 have hbr:Bel w wr:=by rw[←hwr];exact bl
 have PA:=hide (show SB wr w.heap.size (.slice A0 x0.length c0) (.slice A1 x1.length c1) (.slice A2 x2.length c2) (.slice A3 x3.length c3) (.string x4) (.int .i64 x5) (.slice A6 x6.length c6) (.slice A7 x7.length c7) (.slice A8 x8.length c8) (.bool x9) (.int .i64 x10) (.int .i64 x11) (.int .i64 x12)from by rw[←hwr];exact⟨by omega,fun o=>by simp[hf2_0,hf1_0,go_sem],by simp[hk2_0,hk1_0,go_sem],by simp[hk2_0,hk1_0,go_sem],by simp[hk2_0,hk1_0,go_sem],by simp[hk2_0,hk1_0,go_sem],by simp[hk2_0,hk1_0,go_sem],by simp[hk2_0,hk1_0,go_sem],by simp[hk2_0,hk1_0,go_sem],by simp[hk2_0,hk1_0,go_sem],by simp[hk2_0,hk1_0,go_sem],by simp[hk2_0,hk1_0,go_sem],by simp[hk2_0,hk1_0,go_sem],by simp[hk2_0,hk1_0,go_sem],by simp[hk2_0,hk1_0,go_sem]⟩)
 have PB:=hide (show VB wr (w.heap.size+1) k n i t lo hi from by rw[←hwr];exact⟨by omega,by simp[hk2_1,hk1_1,go_sem],by simp[hk2_1,hk1_1,go_sem],by simp[hk2_1,hk1_1,go_sem],by simp[hk2_1,hk1_1,go_sem],by simp[hk2_1,hk1_1,go_sem],by simp[hk2_1,hk1_1,go_sem]⟩)
 clear hwr hb1 hb2 hz1 hz2 hk1_0 hk1_1 hk2_0 hk2_1 hf1_0 hf1_1 hf2_0 hf2_1 hl1_0 hl1_1 hl2_0 hl2_1 hn1_0 hn1_1 hn2_0 hn2_1
 refine wp_region_inv 13 (fun s u wq=>(Bel wr wq)∧(s 0=true→(u 0)=.agg #[.slice A0 x0.length c0,.slice A1 x1.length c1,.slice A2 x2.length c2,.slice A3 x3.length c3,.string x4,.int .i64 x5,.slice A6 x6.length c6,.slice A7 x7.length c7,.slice A8 x8.length c8,.bool x9,.int .i64 x10,.int .i64 x11,.int .i64 x12])∧(s 1=true→s 4=false→HasH wq (u 1) (TStore.mk x0 x1 x2 x3 x4 x5 x6 x7 x8 x9 x10 x11 x12))∧(s 2=true→(u 2)=.agg #[.int .i64 k,.int .i64 n,.int .i64 i,.string t,.int .i64 lo,.int .i64 hi])∧(s 3=true→(u 3)=.agg #[.int .i64 k,.int .i64 n,.int .i64 i,.string t,.int .i64 lo,.int .i64 hi])∧(s 4=true→HasT wr.heap.size wq (u 4) (TStore.mk y0 y1 y2 y3 y4 y5 y6 y7 y8 y9 y10 y11 y12) (.agg #[.int .i64 rk,.int .i64 rn,.int .i64 ri,.string rt,.int .i64 rlo,.int .i64 rhi]) ok (fun b=>(s 9=true∧PtrTo (u 9) b)∨(s 10=true∧PtrTo (u 10) b)))∧(s 5=true→(u 5)=(u 4))∧(s 6=true→(u 4)=.tuple #[(u 6),.agg #[.int .i64 rk,.int .i64 rn,.int .i64 ri,.string rt,.int .i64 rlo,.int .i64 rhi],.bool ok])∧(s 7=true→(u 7)=.agg #[.int .i64 rk,.int .i64 rn,.int .i64 ri,.string rt,.int .i64 rlo,.int .i64 rhi])∧(s 8=true→(u 8)=.bool ok)∧(s 9=true→s 11=false→BoxZ wr.heap.size wq (u 9))∧(s 11=true→BoxS wr.heap.size wq (u 9) (u 6))∧(s 10=true→s 12=false→BoxU wr.heap.size wq (u 10))∧(s 12=true→BoxV wr.heap.size wq (u 10) ⟨rk,rn,ri,rt,rlo,rhi⟩)∧(s 9=true→s 10=true→∀b,PtrTo (u 9) b→¬PtrTo (u 10) b)) [(0,some 30),(1,some 31),(2,some 32),(3,some 33),(4,some 34),(5,some 29),(6,some 35),(7,some 36),(8,some 37),(9,some 6),(10,some 7),(11,none),(12,none),(13,some 8)] rfl (by kernel_rfl) (by kernel_rfl) ?hJ rfl ?hstep ?hlast
 case hJ=>exact fun u=>⟨bl,(fun h=>absurd h Bool.false_ne_true),(fun h=>absurd h Bool.false_ne_true),(fun h=>absurd h Bool.false_ne_true),(fun h=>absurd h Bool.false_ne_true),(fun h=>absurd h Bool.false_ne_true),(fun h=>absurd h Bool.false_ne_true),(fun h=>absurd h Bool.false_ne_true),(fun h=>absurd h Bool.false_ne_true),(fun h=>absurd h Bool.false_ne_true),(fun h=>absurd h Bool.false_ne_true),(fun h=>absurd h Bool.false_ne_true),(fun h=>absurd h Bool.false_ne_true),(fun h=>absurd h Bool.false_ne_true),(fun h=>absurd h Bool.false_ne_true)⟩
 case hstep =>
  simp only[putP,Act.put,List.setIfInBounds_toArray,List.set_cons_zero,List.set_cons_succ,List.getElem_toArray,List.getElem_cons_zero,List.getElem_cons_succ]
  refine (stepsJ_cons (i:=0) (i2:=1) (o:=_) rfl ?s0 (stepsJ_cons (i:=1) (i2:=2) (o:=_) rfl ?s1 (stepsJ_cons (i:=2) (i2:=3) (o:=_) rfl ?s2 (stepsJ_cons (i:=3) (i2:=4) (o:=_) rfl ?s3 (stepsJ_cons (i:=4) (i2:=5) (o:=_) rfl ?s4 (stepsJ_cons (i:=5) (i2:=6) (o:=_) rfl ?s5 (stepsJ_cons (i:=6) (i2:=7) (o:=_) rfl ?s6 (stepsJ_cons (i:=7) (i2:=8) (o:=_) rfl ?s7 (stepsJ_cons (i:=8) (i2:=9) (o:=_) rfl ?s8 (stepsJ_cons (i:=9) (i2:=10) (o:=_) rfl ?s9 (stepsJ_cons (i:=10) (i2:=11) (o:=_) rfl ?s10 (stepsJ_cons (i:=11) (i2:=12) (o:=_) rfl ?s11 (stepsJ_cons (i:=12) (i2:=13) (o:=_) rfl ?s12 (stepsJ_nil (by decide)))))))))))))))
  case s0 =>
   intro u wa s hs ha cl hJ K hK
   obtain⟨jB,j_ld,j_cp,j_lv,j_cv,j_call,j_mv,j_e0,j_e1,j_e2,j_zS,j_xS,j_zV,j_xV,j_ne⟩:=hJ
   simp only[Act.put,List.setIfInBounds_toArray,List.set_cons_zero,List.set_cons_succ,List.getElem_toArray,List.getElem_cons_zero,List.getElem_cons_succ]at hK ⊢
   obtain⟨hlq,hfq,kq_0,kq_1,kq_2,kq_3,kq_4,kq_5,kq_6,kq_7,kq_8,kq_9,kq_10,kq_11,kq_12⟩:=PA.out.on jB
   exact rk219
  case s1 =>
   intro u wa s hs ha cl hJ K hK
   obtain⟨jB,j_ld,j_cp,j_lv,j_cv,j_call,j_mv,j_e0,j_e1,j_e2,j_zS,j_xS,j_zV,j_xV,j_ne⟩:=hJ
   have e_ld:=j_ld (ha 0 (by kernel_rfl))
   simp only[Act.put,List.setIfInBounds_toArray,List.set_cons_zero,List.set_cons_succ,List.getElem_toArray,List.getElem_cons_zero,List.getElem_cons_succ]at hK ⊢
   rw[e_ld]at hK ⊢
   go_simp
   go_at_call 7
   refine (toStore_any _ _ _ _ (Dat.HoldVals.bel (Bel.trans hbr jB) HV.out) HS0.out).mono ?_
   exact rk187
  case s2 =>
   intro u wa s hs ha cl hJ K hK
   obtain⟨jB,j_ld,j_cp,j_lv,j_cv,j_call,j_mv,j_e0,j_e1,j_e2,j_zS,j_xS,j_zV,j_xV,j_ne⟩:=hJ
   simp only[Act.put,List.setIfInBounds_toArray,List.set_cons_zero,List.set_cons_succ,List.getElem_toArray,List.getElem_cons_zero,List.getElem_cons_succ]at hK ⊢
   obtain⟨hlv,q0,q1,q2,q3,q4,q5⟩:=PB.out.on jB
   exact rk220
  case s3 =>
   exact rk127
  case s4 =>
   intro u wa s hs ha cl hJ K hK
   obtain⟨jB,j_ld,j_cp,j_lv,j_cv,j_call,j_mv,j_e0,j_e1,j_e2,j_zS,j_xS,j_zV,j_xV,j_ne⟩:=hJ
   obtain⟨vs5,e_cp,hv5⟩:=j_cp (ha 1 (by kernel_rfl)) hs
   have e_cv:=j_cv (ha 3 (by kernel_rfl))
   simp only[Act.put,List.setIfInBounds_toArray,List.set_cons_zero,List.set_cons_succ,List.getElem_toArray,List.getElem_cons_zero,List.getElem_cons_succ]at hK ⊢
   rw[e_cv]at hK ⊢
   rw[e_cp]at hK ⊢
   go_simp
   go_at_call 6
   refine (specCpy_any (TStore.mk x0 x1 x2 x3 x4 x5 x6 x7 x8 x9 x10 x11 x12) ⟨k,n,i,t,lo,hi⟩ _ _ _ (HT.out.on (Bel.trans hbr jB)) hv5 HX.out HS0.out).mono ?_
   exact rk111
  case s5 =>
   exact rk167
  case s6 =>
   exact rk132
  case s7 =>
   exact rk142
  case s8 =>
   exact rk143
  case s9 =>
   exact rk85
  case s10 =>
   exact rk107
  case s11 =>
   intro u wa s hs ha cl hJ K hK
   obtain⟨jB,j_ld,j_cp,j_lv,j_cv,j_call,j_mv,j_e0,j_e1,j_e2,j_zS,j_xS,j_zV,j_xV,j_ne⟩:=hJ
   simp only[Act.put,List.setIfInBounds_toArray,List.set_cons_zero,List.set_cons_succ,List.getElem_toArray,List.getElem_cons_zero,List.getElem_cons_succ]at hK ⊢
   obtain⟨g,eg,hgN,hgz⟩:=j_zS (ha 9 (by kernel_rfl)) hs
   obtain⟨us,L,e_call,hO,hN,hL⟩:=j_call (ha 4 (by kernel_rfl))
   have e_e0:u 6=.agg us.toArray:=by have h:=(j_e0 (ha 6 (by kernel_rfl))).symm.trans e_call;simpa using h
   have eg2:u 9=.pointer (some ⟨g,0,none⟩):=eg
   rw[e_e0,eg2]at hK ⊢
   have hlen:us.length=13:=(Dat.OwnVals.vals (S:=fun _=>True) (fun _ _=>trivial) hO).length
   have hth:=hgz.there
   rw[←hlen]at hth
   refine wp_store_mid 40 (.tmp 6) (.tmp 35) rfl g 0 us.toArray rfl rfl (by rw[List.size_toArray];exact hth) (by rw[List.size_toArray,hlen];kernel_rfl) (all_oneCell_toArray hO.oneCell) ?_
   exact rk130
  case s12 =>
   intro u wa s hs ha cl hJ K hK
   obtain⟨jB,j_ld,j_cp,j_lv,j_cv,j_call,j_mv,j_e0,j_e1,j_e2,j_zS,j_xS,j_zV,j_xV,j_ne⟩:=hJ
   have e_e1:=j_e1 (ha 7 (by kernel_rfl))
   simp only[Act.put,List.setIfInBounds_toArray,List.set_cons_zero,List.set_cons_succ,List.getElem_toArray,List.getElem_cons_zero,List.getElem_cons_succ]at hK ⊢
   rw[e_e1]at hK ⊢
   obtain⟨g,eg,hgN,hgz⟩:=j_zV (ha 10 (by kernel_rfl)) hs
   have eg2:u 10=.pointer (some ⟨g,0,none⟩):=eg
   rw[eg2]at hK ⊢
   refine wp_store_mid 43 (.tmp 7) (.tmp 36) rfl g 0 #[.int .i64 rk,.int .i64 rn,.int .i64 ri,.string rt,.int .i64 rlo,.int .i64 rhi] rfl rfl hgz.there (by kernel_rfl) (by simp[Value.oneCell']) ?_
   exact rk125
 case hlast =>
  simp only[putP,Act.put,List.setIfInBounds_toArray,List.set_cons_zero,List.set_cons_succ,List.getElem_toArray,List.getElem_cons_zero,List.getElem_cons_succ]
  intro u wa hJ K hK
  obtain⟨s,ha,jB,j_ld,j_cp,j_lv,j_cv,j_call,j_mv,j_e0,j_e1,j_e2,j_zS,j_xS,j_zV,j_xV,j_ne⟩:=hJ
  have e_e2:=j_e2 (ha 8 (by decide))
  obtain⟨us,LW,e_call,hOW,hNW,hLW⟩:=j_call (ha 4 (by decide))
  have e_e0:u 6=.agg us.toArray:=by have h:=(j_e0 (ha 6 (by decide))).symm.trans e_call;simpa using h
  have hS:=j_xS (ha 11 (by decide))
  rw[e_e0]at hS
  obtain⟨WA0,Wc0,-,WA1,Wc1,-,WA2,Wc2,-,WA3,Wc3,-,WA6,Wc6,-,WA7,Wc7,-,WA8,Wc8,-,-,rfl,-⟩:=TStore.vals_own hOW
  obtain⟨bW,-,eW,hWN,-⟩:=id hS
  have SW:=hS.sb eW
  obtain⟨cW,eX,hXN,VW⟩:=j_xV (ha 12 (by decide))
  have hneW:bW≠cW:=fun q=>j_ne (ha 9 (by decide)) (ha 10 (by decide)) bW eW (q▸eX)
  have HLLW:=hide (show ∀b,b∈LW→wr.heap.size≤b∧b<wa.heap.size∧b≠bW∧b≠cW from fun b hb=>⟨(hLW b hb).1,hOW.lt _ _ _ b hb,fun q=>(hLW b hb).2 (Or.inl ⟨(ha 9 (by decide)),q▸eW⟩),fun q=>(hLW b hb).2 (Or.inr ⟨(ha 10 (by decide)),q▸eX⟩)⟩)
  have eW2:u 9=.pointer (some ⟨bW,0,none⟩):=eW
  have eX2:u 10=.pointer (some ⟨cW,0,none⟩):=eX
  rw[e_e2,eW2,eX2]at hK ⊢
  have HOW:=hide hOW
  have HNW:=hide hNW
  have hbWW:=jB
  simp only at VW
  clear j_ld j_cp j_lv j_cv j_call j_mv j_e0 j_e1 j_e2 j_zS j_xS j_zV j_xV j_ne hS eW eX eW2 eX2 e_call e_e0 e_e2 hLW hOW hNW ha
  go_simp
  refine hK.out _ _ ?_
  clear hK K
  obtain⟨wB,rfl⟩:∃x,x=wa:=⟨_,rfl⟩
  have hbwB:=hbr.trans hbWW
  have hwr:=hbr.size
  have PA2:=hide (PA.out.on hbWW)
  have PB2:=hide (PB.out.on hbWW)
  have SW2:=hide SW
  have VW2:=hide VW
  have hlA:=PA.out.1
  have hlB:=PB.out.1
  have hlW:=SW.1
  have hlC:=VW.1
  have HLW:=hide (show ∀b,b∈LW→wr.heap.size≤b∧b<wB.heap.size∧b≠bW∧b≠cW from HLLW.out)
  clear HLLW PA PB SW VW
  have pb:=PA2.out
  obtain⟨hlA,hfA,kA_0,kA_1,kA_2,kA_3,kA_4,kA_5,kA_6,kA_7,kA_8,kA_9,kA_10,kA_11,kA_12⟩:=pb
  go_upto_region 10 with (go_at_call 7;refine (toStoreL_any _ _ _ _ (Dat.HoldVals.bel (Bel.trans hbwB bl) HV.out) HS0.out).mono ?_;rintro e w4 ⟨vs4,LX,rfl,hv4,hn4,hl4,hb4⟩;obtain⟨XA0,Xc0,-,XA1,Xc1,-,XA2,Xc2,-,XA3,Xc3,-,XA6,Xc6,-,XA7,Xc7,-,XA8,Xc8,-,-,rfl,-⟩:=TStore.vals_own hv4;have HX4:=hide hv4;have HNX:=hide hn4;have HLX4:=hide hl4;clear hv4 hn4 hl4)
  refine wp_named2 fun wC hwC=>?_
  have hbC:Bel w4 wC:=by rw[←hwC];exact bl
  have BX:=hide (show SB wC w4.heap.size (.slice XA0 x0.length Xc0) (.slice XA1 x1.length Xc1) (.slice XA2 x2.length Xc2) (.slice XA3 x3.length Xc3) (.string x4) (.int .i64 x5) (.slice XA6 x6.length Xc6) (.slice XA7 x7.length Xc7) (.slice XA8 x8.length Xc8) (.bool x9) (.int .i64 x10) (.int .i64 x11) (.int .i64 x12)from by rw[←hwC];exact SB.new _ _)
  have hzC:wC.heap.size=w4.heap.size+1:=by rw[←hwC];simp
  clear hwC
  have hs4:=hb4.size
  have HLX:=hide (show ∀x,x∈LX→wB.heap.size≤x∧x<w4.heap.size from fun x hx=>⟨HLX4.out x hx,Dat.OwnVals.lt _ _ _ HX4.out x hx⟩)
  have hbBC:=Bel.trans hb4 hbC
  have HX2:=hide (HX4.out.bel hbC)
  have HXH:=hide (Dat.OwnVals.vals (S:=fun _=>True) (fun _ _=>trivial) HX2.out)
  have PC:=hide (PA2.out.on hbBC)
  have QC:=hide (PB2.out.on hbBC)
  have SC:=hide (SW2.out.on hbBC)
  have VC:=hide (VW2.out.on hbBC)
  have OC:=hide (HOW.out.bel hbBC)
  have hbwC:=Bel.trans hbwB hbBC
  clear hlA hfA kA_0 kA_1 kA_2 kA_3 kA_4 kA_5 kA_6 kA_7 kA_8 kA_9 kA_10 kA_11 kA_12
  have hXb:wB.heap.size≤w4.heap.size:=hs4
  have hXc:w4.heap.size<wC.heap.size:=by omega
  clear HX4 HLX4 PA2 PB2 SW2 VW2 HOW hb4 hbC hs4 hbBC hbwB hzC
  generalize w4.heap.size=bX at BX HLX hXb hXc ⊢
  clear w4
  refine wp_region_inv 12 (fun s u wq=>(Bel wC wq)∧(s 0=true→(u 0)=.agg #[.slice XA0 x0.length Xc0,.slice XA1 x1.length Xc1,.slice XA2 x2.length Xc2,.slice XA3 x3.length Xc3,.string x4,.int .i64 x5,.slice XA6 x6.length Xc6,.slice XA7 x7.length Xc7,.slice XA8 x8.length Xc8,.bool x9,.int .i64 x10,.int .i64 x11,.int .i64 x12])∧(s 1=true→(u 1)=.agg #[.int .i64 k,.int .i64 n,.int .i64 i,.string t,.int .i64 lo,.int .i64 hi])∧(s 2=true→(u 2)=.agg #[.int .i64 k,.int .i64 n,.int .i64 i,.string t,.int .i64 lo,.int .i64 hi])∧(s 3=true→HasT wC.heap.size wq (u 3) (TStore.mk y0 y1 y2 y3 y4 y5 y6 y7 y8 y9 y10 y11 y12) (.agg #[.int .i64 rk,.int .i64 rn,.int .i64 ri,.string rt,.int .i64 rlo,.int .i64 rhi]) ok (fun b=>(s 8=true∧PtrTo (u 8) b)∨(s 9=true∧PtrTo (u 9) b)))∧(s 4=true→(u 4)=(u 3))∧(s 5=true→(u 3)=.tuple #[(u 5),.agg #[.int .i64 rk,.int .i64 rn,.int .i64 ri,.string rt,.int .i64 rlo,.int .i64 rhi],.bool ok])∧(s 6=true→(u 6)=.agg #[.int .i64 rk,.int .i64 rn,.int .i64 ri,.string rt,.int .i64 rlo,.int .i64 rhi])∧(s 7=true→(u 7)=.bool ok)∧(s 8=true→s 10=false→BoxZ wC.heap.size wq (u 8))∧(s 10=true→BoxS wC.heap.size wq (u 8) (u 5))∧(s 9=true→s 11=false→BoxU wC.heap.size wq (u 9))∧(s 11=true→BoxV wC.heap.size wq (u 9) ⟨rk,rn,ri,rt,rlo,rhi⟩)∧(s 8=true→s 9=true→∀b,PtrTo (u 8) b→¬PtrTo (u 9) b)) [(0,some 41),(1,some 42),(2,some 43),(3,some 44),(4,some 40),(5,some 45),(6,some 46),(7,some 47),(8,some 10),(9,some 11),(10,none),(11,none),(12,some 12)] rfl (by kernel_rfl) (by kernel_rfl) ?hJ rfl ?hstep ?hlast
  case hJ=>exact fun u=>⟨bl,(fun h=>absurd h Bool.false_ne_true),(fun h=>absurd h Bool.false_ne_true),(fun h=>absurd h Bool.false_ne_true),(fun h=>absurd h Bool.false_ne_true),(fun h=>absurd h Bool.false_ne_true),(fun h=>absurd h Bool.false_ne_true),(fun h=>absurd h Bool.false_ne_true),(fun h=>absurd h Bool.false_ne_true),(fun h=>absurd h Bool.false_ne_true),(fun h=>absurd h Bool.false_ne_true),(fun h=>absurd h Bool.false_ne_true),(fun h=>absurd h Bool.false_ne_true),(fun h=>absurd h Bool.false_ne_true)⟩
  case hstep =>
   simp only[putP,Act.put,List.setIfInBounds_toArray,List.set_cons_zero,List.set_cons_succ,List.getElem_toArray,List.getElem_cons_zero,List.getElem_cons_succ]
   refine (stepsJ_cons (i:=0) (i2:=1) (o:=_) rfl ?s0 (stepsJ_cons (i:=1) (i2:=2) (o:=_) rfl ?s1 (stepsJ_cons (i:=2) (i2:=3) (o:=_) rfl ?s2 (stepsJ_cons (i:=3) (i2:=4) (o:=_) rfl ?s3 (stepsJ_cons (i:=4) (i2:=5) (o:=_) rfl ?s4 (stepsJ_cons (i:=5) (i2:=6) (o:=_) rfl ?s5 (stepsJ_cons (i:=6) (i2:=7) (o:=_) rfl ?s6 (stepsJ_cons (i:=7) (i2:=8) (o:=_) rfl ?s7 (stepsJ_cons (i:=8) (i2:=9) (o:=_) rfl ?s8 (stepsJ_cons (i:=9) (i2:=10) (o:=_) rfl ?s9 (stepsJ_cons (i:=10) (i2:=11) (o:=_) rfl ?s10 (stepsJ_cons (i:=11) (i2:=12) (o:=_) rfl ?s11 (stepsJ_nil (by decide))))))))))))))
   case s0 =>
    intro u wa s hs ha cl hJ K hK
    obtain⟨jB,j_ld,j_lv,j_cv,j_call,j_mv,j_e0,j_e1,j_e2,j_zS,j_xS,j_zV,j_xV,j_ne⟩:=hJ
    simp only[Act.put,List.setIfInBounds_toArray,List.set_cons_zero,List.set_cons_succ,List.getElem_toArray,List.getElem_cons_zero,List.getElem_cons_succ]at hK ⊢
    obtain⟨hlq,hfq,kq_0,kq_1,kq_2,kq_3,kq_4,kq_5,kq_6,kq_7,kq_8,kq_9,kq_10,kq_11,kq_12⟩:=BX.out.on jB
    go_simp
    exact hK.out _ _ ⟨jB,fun _=>rfl,j_lv,j_cv,j_call,j_mv,j_e0,j_e1,j_e2,j_zS,j_xS,j_zV,j_xV,j_ne⟩
   case s1 =>
    intro u wa s hs ha cl hJ K hK
    obtain⟨jB,j_ld,j_lv,j_cv,j_call,j_mv,j_e0,j_e1,j_e2,j_zS,j_xS,j_zV,j_xV,j_ne⟩:=hJ
    simp only[Act.put,List.setIfInBounds_toArray,List.set_cons_zero,List.set_cons_succ,List.getElem_toArray,List.getElem_cons_zero,List.getElem_cons_succ]at hK ⊢
    obtain⟨hlv,q0,q1,q2,q3,q4,q5⟩:=QC.out.on jB
    go_simp
    exact hK.out _ _ ⟨jB,j_ld,fun _=>rfl,j_cv,j_call,j_mv,j_e0,j_e1,j_e2,j_zS,j_xS,j_zV,j_xV,j_ne⟩
   case s2 =>
    intro u wa s hs ha cl hJ K hK
    obtain⟨jB,j_ld,j_lv,j_cv,j_call,j_mv,j_e0,j_e1,j_e2,j_zS,j_xS,j_zV,j_xV,j_ne⟩:=hJ
    have e_lv:=j_lv (ha 1 (by kernel_rfl))
    simp only[Act.put,List.setIfInBounds_toArray,List.set_cons_zero,List.set_cons_succ,List.getElem_toArray,List.getElem_cons_zero,List.getElem_cons_succ]at hK ⊢
    rw[e_lv]at hK ⊢
    go_simp
    go_at_call 8
    refine (toValue_any ⟨k,n,i,t,lo,hi⟩ _).mono ?_
    rintro e w5 ⟨rfl,hb5⟩
    exact hK.out _ _ ⟨jB.trans hb5,j_ld,j_lv,fun _=>rfl,fun h=>(j_call h).on hb5 (fun b hb=>Or.inl hb),j_mv,j_e0,j_e1,j_e2,fun h1 h2=>(j_zS h1 h2).on hb5,fun h=>(j_xS h).on hb5,fun h1 h2=>(j_zV h1 h2).on hb5,fun h=>(j_xV h).on hb5,j_ne⟩
   case s3 =>
    intro u wa s hs ha cl hJ K hK
    obtain⟨jB,j_ld,j_lv,j_cv,j_call,j_mv,j_e0,j_e1,j_e2,j_zS,j_xS,j_zV,j_xV,j_ne⟩:=hJ
    have e_ld:=j_ld (ha 0 (by kernel_rfl))
    have e_cv:=j_cv (ha 2 (by kernel_rfl))
    simp only[Act.put,List.setIfInBounds_toArray,List.set_cons_zero,List.set_cons_succ,List.getElem_toArray,List.getElem_cons_zero,List.getElem_cons_succ]at hK ⊢
    rw[e_ld]at hK ⊢
    rw[e_cv]at hK ⊢
    go_simp
    go_at_call 9
    refine (implCpy_any (TStore.mk x0 x1 x2 x3 x4 x5 x6 x7 x8 x9 x10 x11 x12) ⟨k,n,i,t,lo,hi⟩ _ _ _ (HT.out.on (Bel.trans hbwC jB)) (Dat.HoldVals.bel jB HXH.out) HX.out HS0.out).mono ?_
    rintro e w5 ⟨us5,L5,rfl,hO5,hN5,hL5,hb5⟩
    rw[HR.out,HO.out]
    rw[HN.out]at hO5
    have hz:=jB.size
    refine hK.out _ _ ⟨jB.trans hb5,j_ld,j_lv,j_cv,fun _=>⟨us5,L5,rfl,hO5,hN5,fun b hb=>⟨by have:=hL5 b hb;omega,?_⟩⟩,(fun h=>absurd (cl 4 h 3 (by kernel_rfl)) (by rw[hs];exact Bool.false_ne_true)),(fun h=>absurd (cl 4 (cl 5 h 4 (by kernel_rfl)) 3 (by kernel_rfl)) (by rw[hs];exact Bool.false_ne_true)),j_e1,j_e2,fun h1 h2=>(j_zS h1 h2).on hb5,fun h=>(j_xS h).on hb5,fun h1 h2=>(j_zV h1 h2).on hb5,fun h=>(j_xV h).on hb5,j_ne⟩
    rintro (⟨h1,h2⟩ | ⟨h1,h2⟩)
    ·
     have hlow:=hL5 b hb
     cases hq:s 10
     ·
      obtain⟨g,e,-,hg⟩:=j_zS h1 hq
      have:=hg.1
      have:=e.inj h2
      omega
     ·
      obtain⟨g,us,e,-,-,hg,-⟩:=j_xS hq
      have:=e.inj h2
      omega
    ·
     have hlow:=hL5 b hb
     cases hq:s 11
     ·
      obtain⟨g,e,-,hg⟩:=j_zV h1 hq
      have:=hg.2.2.2.2.2.2.2
      have:=e.inj h2
      omega
     ·
      obtain⟨g,e,-,hg⟩:=j_xV hq
      have:=hg.1
      have:=e.inj h2
      omega
   case s4 =>
    intro u wa s hs ha cl hJ K hK
    obtain⟨jB,j_ld,j_lv,j_cv,j_call,j_mv,j_e0,j_e1,j_e2,j_zS,j_xS,j_zV,j_xV,j_ne⟩:=hJ
    simp only[Act.put,List.setIfInBounds_toArray,List.set_cons_zero,List.set_cons_succ,List.getElem_toArray,List.getElem_cons_zero,List.getElem_cons_succ]at hK ⊢
    go_simp
    exact hK.out _ _ ⟨jB,j_ld,j_lv,j_cv,j_call,fun _=>rfl,j_e0,j_e1,j_e2,j_zS,j_xS,j_zV,j_xV,j_ne⟩
   case s5 =>
    intro u wa s hs ha cl hJ K hK
    obtain⟨jB,j_ld,j_lv,j_cv,j_call,j_mv,j_e0,j_e1,j_e2,j_zS,j_xS,j_zV,j_xV,j_ne⟩:=hJ
    simp only[Act.put,List.setIfInBounds_toArray,List.set_cons_zero,List.set_cons_succ,List.getElem_toArray,List.getElem_cons_zero,List.getElem_cons_succ]at hK ⊢
    obtain⟨us,L,e_call,hO,hN,hL⟩:=j_call (ha 3 (by kernel_rfl))
    have e_mv:=j_mv (ha 4 (by kernel_rfl))
    rw[e_mv,e_call]at hK ⊢
    go_simp
    exact hK.out _ _ ⟨jB,j_ld,j_lv,j_cv,j_call,j_mv,fun _=>e_call,j_e1,j_e2,j_zS,(fun h=>absurd (cl 10 h 5 (by kernel_rfl)) (by rw[hs];exact Bool.false_ne_true)),j_zV,j_xV,j_ne⟩
   case s6 =>
    intro u wa s hs ha cl hJ K hK
    obtain⟨jB,j_ld,j_lv,j_cv,j_call,j_mv,j_e0,j_e1,j_e2,j_zS,j_xS,j_zV,j_xV,j_ne⟩:=hJ
    simp only[Act.put,List.setIfInBounds_toArray,List.set_cons_zero,List.set_cons_succ,List.getElem_toArray,List.getElem_cons_zero,List.getElem_cons_succ]at hK ⊢
    obtain⟨us,L,e_call,hO,hN,hL⟩:=j_call (ha 3 (by kernel_rfl))
    have e_mv:=j_mv (ha 4 (by kernel_rfl))
    rw[e_mv,e_call]at hK ⊢
    go_simp
    exact hK.out _ _ ⟨jB,j_ld,j_lv,j_cv,j_call,j_mv,j_e0,fun _=>rfl,j_e2,j_zS,j_xS,j_zV,j_xV,j_ne⟩
   case s7 =>
    intro u wa s hs ha cl hJ K hK
    obtain⟨jB,j_ld,j_lv,j_cv,j_call,j_mv,j_e0,j_e1,j_e2,j_zS,j_xS,j_zV,j_xV,j_ne⟩:=hJ
    simp only[Act.put,List.setIfInBounds_toArray,List.set_cons_zero,List.set_cons_succ,List.getElem_toArray,List.getElem_cons_zero,List.getElem_cons_succ]at hK ⊢
    obtain⟨us,L,e_call,hO,hN,hL⟩:=j_call (ha 3 (by kernel_rfl))
    have e_mv:=j_mv (ha 4 (by kernel_rfl))
    rw[e_mv,e_call]at hK ⊢
    go_simp
    exact hK.out _ _ ⟨jB,j_ld,j_lv,j_cv,j_call,j_mv,j_e0,j_e1,fun _=>rfl,j_zS,j_xS,j_zV,j_xV,j_ne⟩
   case s8 =>
    intro u wa s hs ha cl hJ K hK
    obtain⟨jB,j_ld,j_lv,j_cv,j_call,j_mv,j_e0,j_e1,j_e2,j_zS,j_xS,j_zV,j_xV,j_ne⟩:=hJ
    simp only[Act.put,List.setIfInBounds_toArray,List.set_cons_zero,List.set_cons_succ,List.getElem_toArray,List.getElem_cons_zero,List.getElem_cons_succ]at hK ⊢
    have hlv:∀b,s 9=true→PtrTo (u 9) b→b<wa.heap.size:=fun b h1 h2=>by
     cases hq:s 11
     ·
      obtain⟨g,e,-,hg⟩:=j_zV h1 hq
      have:=hg.2.2.2.2.2.2.2
      have:=e.inj h2
      omega
     ·
      obtain⟨g,e,-,hg⟩:=j_xV hq
      have:=hg.1
      have:=e.inj h2
      omega
    have hz:=jB.size
    have hbx:Bel wa (wa.alloc (.cells #[.slice none 0 0,.slice none 0 0,.slice none 0 0,.slice none 0 0,.string ByteArray.empty,.int .i64 0,.slice none 0 0,.slice none 0 0,.slice none 0 0,.bool false,.int .i64 0,.int .i64 0,.int .i64 0] 40)):=bl
    go_simp
    have hsS:s 10=false:=by
     cases hq:s 10 with
     | false=>rfl
     | true=>exact absurd (cl 10 hq 8 (by kernel_rfl)) (by rw[hs];exact Bool.false_ne_true)
    exact hK.out _ _ ⟨jB.trans hbx,j_ld,j_lv,j_cv,fun h=>(j_call h).on hbx (fun b hb=>hb.elim (fun q=>Or.inr (Nat.le_of_eq (PtrTo.inj (v:=.pointer (some ⟨wa.heap.size,0,none⟩)) rfl q.2))) (fun q=>Or.inl (Or.inr q))),j_mv,j_e0,j_e1,j_e2,fun _ _=>⟨wa.heap.size,rfl,hz,SB.new _ _⟩,fun h=>absurd (hsS.symm.trans h) Bool.false_ne_true,fun h1 h2=>(j_zV h1 h2).on hbx,fun h=>(j_xV h).on hbx,fun _ h b h1 h2=>by have e:=PtrTo.inj (v:=.pointer (some ⟨wa.heap.size,0,none⟩)) rfl h1;have:=hlv b h h2;omega⟩
   case s9 =>
    intro u wa s hs ha cl hJ K hK
    obtain⟨jB,j_ld,j_lv,j_cv,j_call,j_mv,j_e0,j_e1,j_e2,j_zS,j_xS,j_zV,j_xV,j_ne⟩:=hJ
    simp only[Act.put,List.setIfInBounds_toArray,List.set_cons_zero,List.set_cons_succ,List.getElem_toArray,List.getElem_cons_zero,List.getElem_cons_succ]at hK ⊢
    have hlv:∀b,s 8=true→PtrTo (u 8) b→b<wa.heap.size:=fun b h1 h2=>by
     cases hq:s 10
     ·
      obtain⟨g,e,-,hg⟩:=j_zS h1 hq
      have:=hg.1
      have:=e.inj h2
      omega
     ·
      obtain⟨g,us,e,-,-,hg,-⟩:=j_xS hq
      have:=e.inj h2
      omega
    have hz:=jB.size
    have hbx:Bel wa (wa.alloc (.cells #[.int .i64 0,.int .i64 0,.int .i64 0,.string ByteArray.empty,.int .i64 0,.int .i64 0] 43)):=bl
    go_simp
    have hsV:s 11=false:=by
     cases hq:s 11 with
     | false=>rfl
     | true=>exact absurd (cl 11 hq 9 (by kernel_rfl)) (by rw[hs];exact Bool.false_ne_true)
    exact hK.out _ _ ⟨jB.trans hbx,j_ld,j_lv,j_cv,fun h=>(j_call h).on hbx (fun b hb=>hb.elim (fun q=>Or.inl (Or.inl q)) (fun q=>Or.inr (Nat.le_of_eq (PtrTo.inj (v:=.pointer (some ⟨wa.heap.size,0,none⟩)) rfl q.2)))),j_mv,j_e0,j_e1,j_e2,fun h1 h2=>(j_zS h1 h2).on hbx,fun h=>(j_xS h).on hbx,fun _ _=>⟨wa.heap.size,rfl,hz,Z6.new⟩,fun h=>absurd (hsV.symm.trans h) Bool.false_ne_true,fun h _ b h1 h2=>by have e:=PtrTo.inj (v:=.pointer (some ⟨wa.heap.size,0,none⟩)) rfl h2;have:=hlv b h h1;omega⟩
   case s10 =>
    intro u wa s hs ha cl hJ K hK
    obtain⟨jB,j_ld,j_lv,j_cv,j_call,j_mv,j_e0,j_e1,j_e2,j_zS,j_xS,j_zV,j_xV,j_ne⟩:=hJ
    simp only[Act.put,List.setIfInBounds_toArray,List.set_cons_zero,List.set_cons_succ,List.getElem_toArray,List.getElem_cons_zero,List.getElem_cons_succ]at hK ⊢
    obtain⟨g,eg,hgN,hgz⟩:=j_zS (ha 8 (by kernel_rfl)) hs
    obtain⟨us,L,e_call,hO,hN,hL⟩:=j_call (ha 3 (by kernel_rfl))
    have e_e0:u 5=.agg us.toArray:=by have h:=(j_e0 (ha 5 (by kernel_rfl))).symm.trans e_call;simpa using h
    have eg2:u 8=.pointer (some ⟨g,0,none⟩):=eg
    rw[e_e0,eg2]at hK ⊢
    have hlen:us.length=13:=(Dat.OwnVals.vals (S:=fun _=>True) (fun _ _=>trivial) hO).length
    have hth:=hgz.there
    rw[←hlen]at hth
    refine wp_store_mid 40 (.tmp 10) (.tmp 45) rfl g 0 us.toArray rfl rfl (by rw[List.size_toArray];exact hth) (by rw[List.size_toArray,hlen];kernel_rfl) (all_oneCell_toArray hO.oneCell) ?_
    have hof:=setCells_off (w:=wa) (b:=g) us
    exact hK.out undef _ ⟨Bel.setCells hgN us 0 wa jB,j_ld,j_lv,j_cv,fun h=>(j_call h).off hof (fun b hf q=>hf (Or.inl ⟨(ha 8 (by kernel_rfl)),q▸eg⟩)),j_mv,j_e0,j_e1,j_e2,fun _ h=>absurd (show true=false from h) (by decide),fun _=>(by show BoxS _ _ (u 8) (u 5);rw[e_e0];exact BoxZ.fill eg hgN hgz hlen),fun h1 h2=>(j_zV h1 h2).block hof.size (fun g2 e2 _=>setCells_block (b:=g2) (b':=g) (fun q=>j_ne (ha 8 (by kernel_rfl)) h1 g eg (by rw[q];exact e2)) us 0 wa),(fun h=>absurd (cl 11 h 10 (by kernel_rfl)) (by rw[hs];exact Bool.false_ne_true)),j_ne⟩
   case s11 =>
    intro u wa s hs ha cl hJ K hK
    obtain⟨jB,j_ld,j_lv,j_cv,j_call,j_mv,j_e0,j_e1,j_e2,j_zS,j_xS,j_zV,j_xV,j_ne⟩:=hJ
    have e_e1:=j_e1 (ha 6 (by kernel_rfl))
    simp only[Act.put,List.setIfInBounds_toArray,List.set_cons_zero,List.set_cons_succ,List.getElem_toArray,List.getElem_cons_zero,List.getElem_cons_succ]at hK ⊢
    rw[e_e1]at hK ⊢
    obtain⟨g,eg,hgN,hgz⟩:=j_zV (ha 9 (by kernel_rfl)) hs
    have eg2:u 9=.pointer (some ⟨g,0,none⟩):=eg
    rw[eg2]at hK ⊢
    refine wp_store_mid 43 (.tmp 11) (.tmp 46) rfl g 0 #[.int .i64 rk,.int .i64 rn,.int .i64 ri,.string rt,.int .i64 rlo,.int .i64 rhi] rfl rfl hgz.there (by kernel_rfl) (by simp[Value.oneCell']) ?_
    have hof:=setCells_off (w:=wa) (b:=g) [.int .i64 rk,.int .i64 rn,.int .i64 ri,.string rt,.int .i64 rlo,.int .i64 rhi]
    exact hK.out undef _ ⟨Bel.setCells hgN _ 0 wa jB,j_ld,j_lv,j_cv,fun h=>(j_call h).off hof (fun b hf q=>hf (Or.inr ⟨(ha 9 (by kernel_rfl)),q▸eg⟩)),j_mv,j_e0,j_e1,j_e2,fun _ h=>absurd ((ha 10 (by kernel_rfl)).symm.trans h) (by decide),fun h=>(j_xS h).block hof.size (fun g2 e2 _=>setCells_block (b:=g2) (b':=g) (fun q=>j_ne (ha 8 (by kernel_rfl)) (ha 9 (by kernel_rfl)) g2 e2 (by rw[←q];exact eg)) _ 0 wa),fun _ h=>absurd (show true=false from h) (by decide),fun _=>BoxU.fill (r:=⟨rk,rn,ri,rt,rlo,rhi⟩) eg hgN hgz,j_ne⟩
  case hlast =>
   simp only[putP,Act.put,List.setIfInBounds_toArray,List.set_cons_zero,List.set_cons_succ,List.getElem_toArray,List.getElem_cons_zero,List.getElem_cons_succ]
   intro u wa hJ K hK
   obtain⟨s,ha,jB,j_ld,j_lv,j_cv,j_call,j_mv,j_e0,j_e1,j_e2,j_zS,j_xS,j_zV,j_xV,j_ne⟩:=hJ
   have e_e2:=j_e2 (ha 7 (by decide))
   obtain⟨us,LG,e_call,hOG,hNG,hLG⟩:=j_call (ha 3 (by decide))
   have e_e0:u 5=.agg us.toArray:=by have h:=(j_e0 (ha 5 (by decide))).symm.trans e_call;simpa using h
   have hS:=j_xS (ha 10 (by decide))
   rw[e_e0]at hS
   obtain⟨GA0,Gc0,-,GA1,Gc1,-,GA2,Gc2,-,GA3,Gc3,-,GA6,Gc6,-,GA7,Gc7,-,GA8,Gc8,-,-,rfl,-⟩:=TStore.vals_own hOG
   obtain⟨bG,-,eW,hWN,-⟩:=id hS
   have SG:=hS.sb eW
   obtain⟨cG,eX,hXN,VG⟩:=j_xV (ha 11 (by decide))
   have hneG:bG≠cG:=fun q=>j_ne (ha 8 (by decide)) (ha 9 (by decide)) bG eW (q▸eX)
   have HLLG:=hide (show ∀b,b∈LG→wC.heap.size≤b∧b<wa.heap.size∧b≠bG∧b≠cG from fun b hb=>⟨(hLG b hb).1,hOG.lt _ _ _ b hb,fun q=>(hLG b hb).2 (Or.inl ⟨(ha 8 (by decide)),q▸eW⟩),fun q=>(hLG b hb).2 (Or.inr ⟨(ha 9 (by decide)),q▸eX⟩)⟩)
   have eW2:u 8=.pointer (some ⟨bG,0,none⟩):=eW
   have eX2:u 9=.pointer (some ⟨cG,0,none⟩):=eX
   rw[e_e2,eW2,eX2]at hK ⊢
   have HOG:=hide hOG
   have HNG:=hide hNG
   have hbWG:=jB
   simp only at VG
   clear j_ld j_lv j_cv j_call j_mv j_e0 j_e1 j_e2 j_zS j_xS j_zV j_xV j_ne hS eW eX eW2 eX2 e_call e_e0 e_e2 hLG hOG hNG ha
   go_simp
   refine hK.out _ _ ?_
   clear hK K
   obtain⟨wD,rfl⟩:∃x,x=wa:=⟨_,rfl⟩
   have hbCD:=hbWG
   have HXD:=hide (HX2.out.bel hbCD)
   have BXD:=hide (BX.out.on hbCD)
   have HGD:=hide HOG.out
   have hlG:=SG.1
   have hlH:=VG.1
   have HLG:=hide (show ∀b,b∈LG→wC.heap.size≤b∧b<wD.heap.size∧b≠bG∧b≠cG from HLLG.out)
   have NF:=hide (show CwF w wD w.heap.size (w.heap.size+1) bW cW bG cG (.slice A0 x0.length c0) (.slice A1 x1.length c1) (.slice A2 x2.length c2) (.slice A3 x3.length c3) (.string x4) (.int .i64 x5) (.slice A6 x6.length c6) (.slice A7 x7.length c7) (.slice A8 x8.length c8) (.bool x9) (.int .i64 x10) (.int .i64 x11) (.int .i64 x12) k n i t lo hi (.slice WA0 y0.length Wc0) (.slice WA1 y1.length Wc1) (.slice WA2 y2.length Wc2) (.slice WA3 y3.length Wc3) (.string y4) (.int .i64 y5) (.slice WA6 y6.length Wc6) (.slice WA7 y7.length Wc7) (.slice WA8 y8.length Wc8) (.bool y9) (.int .i64 y10) (.int .i64 y11) (.int .i64 y12) rk rn ri rt rlo rhi (.slice GA0 y0.length Gc0) (.slice GA1 y1.length Gc1) (.slice GA2 y2.length Gc2) (.slice GA3 y3.length Gc3) (.string y4) (.int .i64 y5) (.slice GA6 y6.length Gc6) (.slice GA7 y7.length Gc7) (.slice GA8 y8.length Gc8) (.bool y9) (.int .i64 y10) (.int .i64 y11) (.int .i64 y12) LW (TStore.mk y0 y1 y2 y3 y4 y5 y6 y7 y8 y9 y10 y11 y12).D from⟨Bel.trans hbwC hbCD,PC.out.on hbCD,QC.out.on hbCD,SC.out.on hbCD,VC.out.on hbCD,SG,VG,OC.out.bel hbCD⟩)
   have hGb:wC.heap.size≤wD.heap.size:=hbCD.size
   clear HOG HLLG HX2 HXH BX PC QC SC VC OC SG VG hbCD hbwC hbWG hbWW
   have pb:=NF.out.sg
   obtain⟨hlG,hfG,kG_0,kG_1,kG_2,kG_3,kG_4,kG_5,kG_6,kG_7,kG_8,kG_9,kG_10,kG_11,kG_12⟩:=pb
   have pb:=NF.out.sw
   obtain⟨hlW,hfW,kW_0,kW_1,kW_2,kW_3,kW_4,kW_5,kW_6,kW_7,kW_8,kW_9,kW_10,kW_11,kW_12⟩:=pb
   have pb:=NF.out.yg
   obtain⟨hlY,kY_0,kY_1,kY_2,kY_3,kY_4,kY_5⟩:=pb
   have pb:=NF.out.xw
   obtain⟨hlV,kV_0,kV_1,kV_2,kV_3,kV_4,kV_5⟩:=pb
   go_upto_region 13 with (first | (go_at_call 10;refine (eqStore_any (TStore.mk y0 y1 y2 y3 y4 y5 y6 y7 y8 y9 y10 y11 y12) (fun _=>True) (fun _=>True) _ _ _ (Dat.OwnVals.vals (S:=fun _=>True) (fun _ _=>trivial) HGD.out) (Dat.OwnVals.vals (S:=fun _=>True) (fun _ _=>trivial) NF.out.ow)).mono ?_;rintro e w6 ⟨rfl,hb6⟩;have py:=VB.on NF.out.yg hb6;have px:=VB.on NF.out.xw hb6;obtain⟨hly,py0,py1,py2,py3,py4,py5⟩:=py;obtain⟨hlx,px0,px1,px2,px3,px4,px5⟩:=px) | (go_at_call 11;refine (eqv_same rk rn ri rt rlo rhi _).mono ?_;rintro e wv6 ⟨rfl,hbv6⟩))
   clear hlG hfG kG_0 kG_1 kG_2 kG_3 kG_4 kG_5 kG_6 kG_7 kG_8 kG_9 kG_10 kG_11 kG_12
   clear hlW hfW kW_0 kW_1 kW_2 kW_3 kW_4 kW_5 kW_6 kW_7 kW_8 kW_9 kW_10 kW_11 kW_12
   clear hlY kY_0 kY_1 kY_2 kY_3 kY_4 kY_5
   clear hlV kV_0 kV_1 kV_2 kV_3 kV_4 kV_5
   refine wp_named2 fun wE hwE=>?_
   have hbDE:Bel wD wE:=by rw[←hwE];exact bl
   clear hwE
   (try clear hly py0 py1 py2 py3 py4 py5 hlx px0 px1 px2 px3 px4 px5)
   clear hb6 hbv6
   have NE:=hide (NF.out.on hbDE)
   have HXE:=hide (HXD.out.bel hbDE)
   have BXE:=hide (BXD.out.on hbDE)
   have HGE:=hide (HGD.out.bel hbDE)
   have hzE:=hbDE.size
   clear NF HXD BXD HGD hbDE
   have pb:=NE.out.pa
   obtain⟨hlA,hfA,kA_0,kA_1,kA_2,kA_3,kA_4,kA_5,kA_6,kA_7,kA_8,kA_9,kA_10,kA_11,kA_12⟩:=pb
   have pb:=BXE.out
   obtain⟨hlX,hfX,kX_0,kX_1,kX_2,kX_3,kX_4,kX_5,kX_6,kX_7,kX_8,kX_9,kX_10,kX_11,kX_12⟩:=pb
   refine wp_region_held_drew (S:=fun w'=>w'.cell? ⟨w.heap.size,0,none⟩=some (.slice A0 x0.length c0)∧w'.cell? ⟨w.heap.size,1,none⟩=some (.slice A1 x1.length c1)∧w'.cell? ⟨w.heap.size,2,none⟩=some (.slice A2 x2.length c2)∧w'.cell? ⟨w.heap.size,3,none⟩=some (.slice A3 x3.length c3)∧w'.cell? ⟨w.heap.size,4,none⟩=some (.string x4)∧w'.cell? ⟨w.heap.size,5,none⟩=some (.int .i64 x5)∧w'.cell? ⟨w.heap.size,6,none⟩=some (.slice A6 x6.length c6)∧w'.cell? ⟨w.heap.size,7,none⟩=some (.slice A7 x7.length c7)∧w'.cell? ⟨w.heap.size,8,none⟩=some (.slice A8 x8.length c8)∧w'.cell? ⟨w.heap.size,9,none⟩=some (.bool x9)∧w'.cell? ⟨w.heap.size,10,none⟩=some (.int .i64 x10)∧w'.cell? ⟨w.heap.size,11,none⟩=some (.int .i64 x11)∧w'.cell? ⟨w.heap.size,12,none⟩=some (.int .i64 x12)∧w'.cell? ⟨bX,0,none⟩=some (.slice XA0 x0.length Xc0)∧w'.cell? ⟨bX,1,none⟩=some (.slice XA1 x1.length Xc1)∧w'.cell? ⟨bX,2,none⟩=some (.slice XA2 x2.length Xc2)∧w'.cell? ⟨bX,3,none⟩=some (.slice XA3 x3.length Xc3)∧w'.cell? ⟨bX,4,none⟩=some (.string x4)∧w'.cell? ⟨bX,5,none⟩=some (.int .i64 x5)∧w'.cell? ⟨bX,6,none⟩=some (.slice XA6 x6.length Xc6)∧w'.cell? ⟨bX,7,none⟩=some (.slice XA7 x7.length Xc7)∧w'.cell? ⟨bX,8,none⟩=some (.slice XA8 x8.length Xc8)∧w'.cell? ⟨bX,9,none⟩=some (.bool x9)∧w'.cell? ⟨bX,10,none⟩=some (.int .i64 x10)∧w'.cell? ⟨bX,11,none⟩=some (.int .i64 x11)∧w'.cell? ⟨bX,12,none⟩=some (.int .i64 x12)) (by kernel_rfl) ?_ (fun hHeld=>?_)
   ·
    exact⟨kA_0,kA_1,kA_2,kA_3,kA_4,kA_5,kA_6,kA_7,kA_8,kA_9,kA_10,kA_11,kA_12,kX_0,kX_1,kX_2,kX_3,kX_4,kX_5,kX_6,kX_7,kX_8,kX_9,kX_10,kX_11,kX_12⟩
   refine tkI 0 ?_
   refine tkI 1 ?_
   refine wpAnyH_ready (rs:=[2]) (by kernel_rfl) (by simp) ?_
   refine AllReadyH.cons (o:=_) rfl (fun K hK=>?_) AllReadyH.nil
   go_simp
   clear hHeld
   go_at_call 7
   refine (toStore_any _ _ _ _ (Dat.HoldVals.bel (Bel.trans NE.out.bel bl) HV.out) HS0.out).mono ?_
   rintro e w7 ⟨vs7,rfl,hv7,hb7⟩
   obtain⟨i7A0,i7c0,i7A1,i7c1,i7A2,i7c2,i7A3,i7c3,i7A6,i7c6,i7A7,i7c7,i7A8,i7c8,rfl,-⟩:=TStore.vals hv7
   have HP7:=hide hv7
   clear hv7
   have hbE7:Bel wE w7:=Bel.trans (Bel.drew (Bel.refl _)) hb7
   refine hK.out _ _ ?_ (fun hHeld=>?_)
   ·
    exact⟨(hbE7.box _ hlA _).trans kA_0,(hbE7.box _ hlA _).trans kA_1,(hbE7.box _ hlA _).trans kA_2,(hbE7.box _ hlA _).trans kA_3,(hbE7.box _ hlA _).trans kA_4,(hbE7.box _ hlA _).trans kA_5,(hbE7.box _ hlA _).trans kA_6,(hbE7.box _ hlA _).trans kA_7,(hbE7.box _ hlA _).trans kA_8,(hbE7.box _ hlA _).trans kA_9,(hbE7.box _ hlA _).trans kA_10,(hbE7.box _ hlA _).trans kA_11,(hbE7.box _ hlA _).trans kA_12,(hbE7.box _ hlX _).trans kX_0,(hbE7.box _ hlX _).trans kX_1,(hbE7.box _ hlX _).trans kX_2,(hbE7.box _ hlX _).trans kX_3,(hbE7.box _ hlX _).trans kX_4,(hbE7.box _ hlX _).trans kX_5,(hbE7.box _ hlX _).trans kX_6,(hbE7.box _ hlX _).trans kX_7,(hbE7.box _ hlX _).trans kX_8,(hbE7.box _ hlX _).trans kX_9,(hbE7.box _ hlX _).trans kX_10,(hbE7.box _ hlX _).trans kX_11,(hbE7.box _ hlX _).trans kX_12⟩
   clear hK K
   (try simp only[Act.put,List.setIfInBounds_toArray,List.set_cons_zero,List.set_cons_succ,List.getElem_toArray,List.getElem_cons_zero,List.getElem_cons_succ])
   refine wpAnyH_ready (rs:=[3]) (by kernel_rfl) (by simp) ?_
   refine AllReadyH.cons (o:=_) rfl (fun K hK=>?_) AllReadyH.nil
   go_simp
   clear hHeld
   go_at_call 10
   refine (eqStore_any (TStore.mk x0 x1 x2 x3 x4 x5 x6 x7 x8 x9 x10 x11 x12) (fun _=>True) _ _ _ _ (Dat.OwnVals.vals (S:=fun _=>True) (fun _ _=>trivial) (HXE.out.bel hbE7)) HP7.out).mono ?_
   rintro e w8 ⟨rfl,hb8⟩
   have hbE8:Bel wE w8:=Bel.trans hbE7 hb8
   refine hK.out _ _ ?_ (fun hHeld=>?_)
   ·
    exact⟨(hbE8.box _ hlA _).trans kA_0,(hbE8.box _ hlA _).trans kA_1,(hbE8.box _ hlA _).trans kA_2,(hbE8.box _ hlA _).trans kA_3,(hbE8.box _ hlA _).trans kA_4,(hbE8.box _ hlA _).trans kA_5,(hbE8.box _ hlA _).trans kA_6,(hbE8.box _ hlA _).trans kA_7,(hbE8.box _ hlA _).trans kA_8,(hbE8.box _ hlA _).trans kA_9,(hbE8.box _ hlA _).trans kA_10,(hbE8.box _ hlA _).trans kA_11,(hbE8.box _ hlA _).trans kA_12,(hbE8.box _ hlX _).trans kX_0,(hbE8.box _ hlX _).trans kX_1,(hbE8.box _ hlX _).trans kX_2,(hbE8.box _ hlX _).trans kX_3,(hbE8.box _ hlX _).trans kX_4,(hbE8.box _ hlX _).trans kX_5,(hbE8.box _ hlX _).trans kX_6,(hbE8.box _ hlX _).trans kX_7,(hbE8.box _ hlX _).trans kX_8,(hbE8.box _ hlX _).trans kX_9,(hbE8.box _ hlX _).trans kX_10,(hbE8.box _ hlX _).trans kX_11,(hbE8.box _ hlX _).trans kX_12⟩
   clear hK K
   (try simp only[Act.put,List.setIfInBounds_toArray,List.set_cons_zero,List.set_cons_succ,List.getElem_toArray,List.getElem_cons_zero,List.getElem_cons_succ])
   refine tkI 4 ?_
   refine wpAnyH_done (by kernel_rfl) ?_ _
   clear hHeld HP7 hb7 hb8 hbE7
   go_upto_region 16 with (fail)
   refine wp_named2 fun wF hwF=>?_
   have hbEF:Bel wE wF:=by rw[←hwF];exact bl
   clear hwF
   (try clear hly py0 py1 py2 py3 py4 py5 hlx px0 px1 px2 px3 px4 px5)
   clear hbE8
   clear hlA hfA kA_0 kA_1 kA_2 kA_3 kA_4 kA_5 kA_6 kA_7 kA_8 kA_9 kA_10 kA_11 kA_12
   clear hlX hfX kX_0 kX_1 kX_2 kX_3 kX_4 kX_5 kX_6 kX_7 kX_8 kX_9 kX_10 kX_11 kX_12
   have NF:=hide (NE.out.on hbEF)
   have HXF:=hide (HXE.out.bel hbEF)
   have BXF:=hide (BXE.out.on hbEF)
   have HGF:=hide (HGE.out.bel hbEF)
   have hzF:=hbEF.size
   clear NE HXE BXE HGE hbEF
   have pb:=BXF.out
   obtain⟨hlX,hfX,kX_0,kX_1,kX_2,kX_3,kX_4,kX_5,kX_6,kX_7,kX_8,kX_9,kX_10,kX_11,kX_12⟩:=pb
   go_upto_region 17 with (go_at_call 12;refine (markStoreW_any (TStore.mk x0 x1 x2 x3 x4 x5 x6 x7 x8 x9 x10 x11 x12) LX _ _ 1 HXF.out HNX.out (by omega) HCN.out).mono ?_;rintro e w9 ⟨rfl,-,ho9⟩;rw[HQ0.out])
   clear hlX hfX kX_0 kX_1 kX_2 kX_3 kX_4 kX_5 kX_6 kX_7 kX_8 kX_9 kX_10 kX_11 kX_12
   have hq00:(0:Int)≤(q0:Int):=by omega
   have dk9:decide ((1:Int)+(q0:Int)<0)=false:=by simp;omega
   have N9:=hide (NF.out.off ho9 (fun x hx h=>by have:=HLX.out x h;omega) (fun x hx h=>by have:=HLX.out x h;have:=HLG.out;omega) (fun x hx h=>by have h1:=HLW.out x hx;have h2:=HLX.out x h;omega))
   have HG9:=hide (HGF.out.offS ho9 (fun x hx h=>by have h1:=HLG.out x hx;have h2:=HLX.out x h;omega))
   have hz9:=ho9.size
   clear NF HGF HXF BXF HNX ho9
   refine wp_named2 fun wG hwG=>?_
   have hb9G:Bel w9 wG:=by rw[←hwG];exact bl
   clear hwG
   have NF:=hide (N9.out.on hb9G)
   have HGG:=hide (HG9.out.bel hb9G)
   have hzG:=hb9G.size
   clear N9 HG9 hb9G
   have pb:=NF.out.sg
   obtain⟨hlG,hfG,kG_0,kG_1,kG_2,kG_3,kG_4,kG_5,kG_6,kG_7,kG_8,kG_9,kG_10,kG_11,kG_12⟩:=pb
   have pb:=NF.out.sw
   obtain⟨hlW,hfW,kW_0,kW_1,kW_2,kW_3,kW_4,kW_5,kW_6,kW_7,kW_8,kW_9,kW_10,kW_11,kW_12⟩:=pb
   have pb:=NF.out.yg
   obtain⟨hlY,kY_0,kY_1,kY_2,kY_3,kY_4,kY_5⟩:=pb
   have pb:=NF.out.xw
   obtain⟨hlV,kV_0,kV_1,kV_2,kV_3,kV_4,kV_5⟩:=pb
   go_upto_region 20 with (first | (go_at_call 10;refine (eqStore_any (TStore.mk y0 y1 y2 y3 y4 y5 y6 y7 y8 y9 y10 y11 y12) (fun _=>True) (fun _=>True) _ _ _ (Dat.OwnVals.vals (S:=fun _=>True) (fun _ _=>trivial) HGG.out) (Dat.OwnVals.vals (S:=fun _=>True) (fun _ _=>trivial) NF.out.ow)).mono ?_;rintro e w10 ⟨rfl,hb10⟩;have py:=VB.on NF.out.yg hb10;have px:=VB.on NF.out.xw hb10;obtain⟨hly,py0,py1,py2,py3,py4,py5⟩:=py;obtain⟨hlx,px0,px1,px2,px3,px4,px5⟩:=px) | (go_at_call 11;refine (eqv_same rk rn ri rt rlo rhi _).mono ?_;rintro e wv10 ⟨rfl,hbv10⟩))
   clear hlG hfG kG_0 kG_1 kG_2 kG_3 kG_4 kG_5 kG_6 kG_7 kG_8 kG_9 kG_10 kG_11 kG_12
   clear hlW hfW kW_0 kW_1 kW_2 kW_3 kW_4 kW_5 kW_6 kW_7 kW_8 kW_9 kW_10 kW_11 kW_12
   clear hlY kY_0 kY_1 kY_2 kY_3 kY_4 kY_5
   clear hlV kV_0 kV_1 kV_2 kV_3 kV_4 kV_5
   refine wp_named2 fun wH hwH=>?_
   have hbGH:Bel wG wH:=by rw[←hwH];exact bl
   clear hwH
   (try clear hly py0 py1 py2 py3 py4 py5 hlx px0 px1 px2 px3 px4 px5)
   clear hb10 hbv10
   have NH:=hide (NF.out.on hbGH)
   have HGH:=hide (HGG.out.bel hbGH)
   have hzH:=hbGH.size
   clear NF HGG hbGH
   have pb:=NH.out.sg
   obtain⟨hlG,hfG,kG_0,kG_1,kG_2,kG_3,kG_4,kG_5,kG_6,kG_7,kG_8,kG_9,kG_10,kG_11,kG_12⟩:=pb
   go_upto_region 21 with (go_at_call 12;refine (markStoreW_any (TStore.mk y0 y1 y2 y3 y4 y5 y6 y7 y8 y9 y10 y11 y12) LG _ _ 1 HGH.out HNG.out (by omega) HCL.out).mono ?_;rintro e w11 ⟨rfl,hM,ho11⟩;rw[HQ.out];have HM11:=hide hM;clear hM)
   clear hlG hfG kG_0 kG_1 kG_2 kG_3 kG_4 kG_5 kG_6 kG_7 kG_8 kG_9 kG_10 kG_11 kG_12
   have N11:=hide (NH.out.off ho11 (fun x hx h=>by have:=HLG.out x h;omega) (fun x hx h=>by have:=HLG.out x h;omega) (fun x hx h=>by have h1:=HLW.out x hx;have h2:=HLG.out x h;omega))
   have hz11:=ho11.size
   clear NH HGH HNG ho11
   refine wp_named2 fun wI hwI=>?_
   have hb11I:Bel w11 wI:=by rw[←hwI];exact bl
   clear hwI
   have NI:=hide (N11.out.on hb11I)
   have HMI:=hide (TStore.OwnM.bel hb11I HM11.out)
   have hzI:=hb11I.size
   clear N11 HM11 hb11I
   have dq0:decide ((1:Int)+(q:Int)<0)=false:=by simp;omega
   have dq1:((1:Int)+(q:Int) != 1+(q:Int))=false:=by simp
   have pb:=NI.out.sg
   obtain⟨hlG,hfG,kG_0,kG_1,kG_2,kG_3,kG_4,kG_5,kG_6,kG_7,kG_8,kG_9,kG_10,kG_11,kG_12⟩:=pb
   go_upto_region 27 with (go_at_call 13;refine (heldStoreW_any (TStore.mk y0 y1 y2 y3 y4 y5 y6 y7 y8 y9 y10 y11 y12) LG _ _ 1 (TStore.OwnM.bel bl HMI.out) (by omega) HCL.out).mono ?_;rintro e w12 ⟨rfl,hb12⟩;rw[HQ.out])
   clear hlG hfG kG_0 kG_1 kG_2 kG_3 kG_4 kG_5 kG_6 kG_7 kG_8 kG_9 kG_10 kG_11 kG_12
   refine wp_named2 fun wJ hwJ=>?_
   have hbIJ:Bel wI wJ:=by rw[←hwJ];exact bl
   clear hwJ
   (try clear hly py0 py1 py2 py3 py4 py5 hlx px0 px1 px2 px3 px4 px5)
   clear hb12
   have NJ:=hide (NI.out.on hbIJ)
   have HMJ:=hide (TStore.OwnM.bel hbIJ HMI.out)
   have hzJ:=hbIJ.size
   clear NI HMI hbIJ
   have hbwJ:=NJ.out.bel
   have PJ:=hide NJ.out.pa
   have QJ:=hide NJ.out.pv
   refine wp_region_inv 13 (fun s u wq=>(Bel wJ wq)∧(s 0=true→(u 0)=.agg #[.slice A0 x0.length c0,.slice A1 x1.length c1,.slice A2 x2.length c2,.slice A3 x3.length c3,.string x4,.int .i64 x5,.slice A6 x6.length c6,.slice A7 x7.length c7,.slice A8 x8.length c8,.bool x9,.int .i64 x10,.int .i64 x11,.int .i64 x12])∧(s 1=true→s 4=false→HasH wq (u 1) (TStore.mk x0 x1 x2 x3 x4 x5 x6 x7 x8 x9 x10 x11 x12))∧(s 2=true→(u 2)=.agg #[.int .i64 k,.int .i64 n,.int .i64 i,.string t,.int .i64 lo,.int .i64 hi])∧(s 3=true→(u 3)=.agg #[.int .i64 k,.int .i64 n,.int .i64 i,.string t,.int .i64 lo,.int .i64 hi])∧(s 4=true→HasT wJ.heap.size wq (u 4) (TStore.mk y0 y1 y2 y3 y4 y5 y6 y7 y8 y9 y10 y11 y12) (.agg #[.int .i64 rk,.int .i64 rn,.int .i64 ri,.string rt,.int .i64 rlo,.int .i64 rhi]) ok (fun b=>(s 9=true∧PtrTo (u 9) b)∨(s 10=true∧PtrTo (u 10) b)))∧(s 5=true→(u 5)=(u 4))∧(s 6=true→(u 4)=.tuple #[(u 6),.agg #[.int .i64 rk,.int .i64 rn,.int .i64 ri,.string rt,.int .i64 rlo,.int .i64 rhi],.bool ok])∧(s 7=true→(u 7)=.agg #[.int .i64 rk,.int .i64 rn,.int .i64 ri,.string rt,.int .i64 rlo,.int .i64 rhi])∧(s 8=true→(u 8)=.bool ok)∧(s 9=true→s 11=false→BoxZ wJ.heap.size wq (u 9))∧(s 11=true→BoxS wJ.heap.size wq (u 9) (u 6))∧(s 10=true→s 12=false→BoxU wJ.heap.size wq (u 10))∧(s 12=true→BoxV wJ.heap.size wq (u 10) ⟨rk,rn,ri,rt,rlo,rhi⟩)∧(s 9=true→s 10=true→∀b,PtrTo (u 9) b→¬PtrTo (u 10) b)) [(0,some 102),(1,some 103),(2,some 104),(3,some 105),(4,some 106),(5,some 101),(6,some 107),(7,some 108),(8,some 109),(9,some 16),(10,some 17),(11,none),(12,none),(13,some 18)] rfl (by kernel_rfl) (by kernel_rfl) ?hJ rfl ?hstep ?hlast
   case hJ=>exact fun u=>⟨bl,(fun h=>absurd h Bool.false_ne_true),(fun h=>absurd h Bool.false_ne_true),(fun h=>absurd h Bool.false_ne_true),(fun h=>absurd h Bool.false_ne_true),(fun h=>absurd h Bool.false_ne_true),(fun h=>absurd h Bool.false_ne_true),(fun h=>absurd h Bool.false_ne_true),(fun h=>absurd h Bool.false_ne_true),(fun h=>absurd h Bool.false_ne_true),(fun h=>absurd h Bool.false_ne_true),(fun h=>absurd h Bool.false_ne_true),(fun h=>absurd h Bool.false_ne_true),(fun h=>absurd h Bool.false_ne_true),(fun h=>absurd h Bool.false_ne_true)⟩
   case hstep =>
    simp only[putP,Act.put,List.setIfInBounds_toArray,List.set_cons_zero,List.set_cons_succ,List.getElem_toArray,List.getElem_cons_zero,List.getElem_cons_succ]
    refine (stepsJ_cons (i:=0) (i2:=1) (o:=_) rfl ?s0 (stepsJ_cons (i:=1) (i2:=2) (o:=_) rfl ?s1 (stepsJ_cons (i:=2) (i2:=3) (o:=_) rfl ?s2 (stepsJ_cons (i:=3) (i2:=4) (o:=_) rfl ?s3 (stepsJ_cons (i:=4) (i2:=5) (o:=_) rfl ?s4 (stepsJ_cons (i:=5) (i2:=6) (o:=_) rfl ?s5 (stepsJ_cons (i:=6) (i2:=7) (o:=_) rfl ?s6 (stepsJ_cons (i:=7) (i2:=8) (o:=_) rfl ?s7 (stepsJ_cons (i:=8) (i2:=9) (o:=_) rfl ?s8 (stepsJ_cons (i:=9) (i2:=10) (o:=_) rfl ?s9 (stepsJ_cons (i:=10) (i2:=11) (o:=_) rfl ?s10 (stepsJ_cons (i:=11) (i2:=12) (o:=_) rfl ?s11 (stepsJ_cons (i:=12) (i2:=13) (o:=_) rfl ?s12 (stepsJ_nil (by decide)))))))))))))))
    case s0 =>
     intro u wa s hs ha cl hJ K hK
     obtain⟨jB,j_ld,j_cp,j_lv,j_cv,j_call,j_mv,j_e0,j_e1,j_e2,j_zS,j_xS,j_zV,j_xV,j_ne⟩:=hJ
     simp only[Act.put,List.setIfInBounds_toArray,List.set_cons_zero,List.set_cons_succ,List.getElem_toArray,List.getElem_cons_zero,List.getElem_cons_succ]at hK ⊢
     obtain⟨hlq,hfq,kq_0,kq_1,kq_2,kq_3,kq_4,kq_5,kq_6,kq_7,kq_8,kq_9,kq_10,kq_11,kq_12⟩:=PJ.out.on jB
     exact rk219
    case s1 =>
     intro u wa s hs ha cl hJ K hK
     obtain⟨jB,j_ld,j_cp,j_lv,j_cv,j_call,j_mv,j_e0,j_e1,j_e2,j_zS,j_xS,j_zV,j_xV,j_ne⟩:=hJ
     have e_ld:=j_ld (ha 0 (by kernel_rfl))
     simp only[Act.put,List.setIfInBounds_toArray,List.set_cons_zero,List.set_cons_succ,List.getElem_toArray,List.getElem_cons_zero,List.getElem_cons_succ]at hK ⊢
     rw[e_ld]at hK ⊢
     go_simp
     go_at_call 7
     refine (toStore_any _ _ _ _ (Dat.HoldVals.bel (Bel.trans hbwJ jB) HV.out) HS0.out).mono ?_
     exact rk187
    case s2 =>
     intro u wa s hs ha cl hJ K hK
     obtain⟨jB,j_ld,j_cp,j_lv,j_cv,j_call,j_mv,j_e0,j_e1,j_e2,j_zS,j_xS,j_zV,j_xV,j_ne⟩:=hJ
     simp only[Act.put,List.setIfInBounds_toArray,List.set_cons_zero,List.set_cons_succ,List.getElem_toArray,List.getElem_cons_zero,List.getElem_cons_succ]at hK ⊢
     obtain⟨hlv,q0,q1,q2,q3,q4,q5⟩:=QJ.out.on jB
     exact rk220
    case s3 =>
     exact rk127
    case s4 =>
     intro u wa s hs ha cl hJ K hK
     obtain⟨jB,j_ld,j_cp,j_lv,j_cv,j_call,j_mv,j_e0,j_e1,j_e2,j_zS,j_xS,j_zV,j_xV,j_ne⟩:=hJ
     obtain⟨vs5,e_cp,hv5⟩:=j_cp (ha 1 (by kernel_rfl)) hs
     have e_cv:=j_cv (ha 3 (by kernel_rfl))
     simp only[Act.put,List.setIfInBounds_toArray,List.set_cons_zero,List.set_cons_succ,List.getElem_toArray,List.getElem_cons_zero,List.getElem_cons_succ]at hK ⊢
     rw[e_cv]at hK ⊢
     rw[e_cp]at hK ⊢
     go_simp
     go_at_call 9
     refine (implCpy_any (TStore.mk x0 x1 x2 x3 x4 x5 x6 x7 x8 x9 x10 x11 x12) ⟨k,n,i,t,lo,hi⟩ _ _ _ (HT.out.on (Bel.trans hbwJ jB)) hv5 HX.out HS0.out).mono ?_
     exact rk111
    case s5 =>
     exact rk167
    case s6 =>
     exact rk132
    case s7 =>
     exact rk142
    case s8 =>
     exact rk143
    case s9 =>
     exact rk85
    case s10 =>
     exact rk107
    case s11 =>
     intro u wa s hs ha cl hJ K hK
     obtain⟨jB,j_ld,j_cp,j_lv,j_cv,j_call,j_mv,j_e0,j_e1,j_e2,j_zS,j_xS,j_zV,j_xV,j_ne⟩:=hJ
     simp only[Act.put,List.setIfInBounds_toArray,List.set_cons_zero,List.set_cons_succ,List.getElem_toArray,List.getElem_cons_zero,List.getElem_cons_succ]at hK ⊢
     obtain⟨g,eg,hgN,hgz⟩:=j_zS (ha 9 (by kernel_rfl)) hs
     obtain⟨us,L,e_call,hO,hN,hL⟩:=j_call (ha 4 (by kernel_rfl))
     have e_e0:u 6=.agg us.toArray:=by have h:=(j_e0 (ha 6 (by kernel_rfl))).symm.trans e_call;simpa using h
     have eg2:u 9=.pointer (some ⟨g,0,none⟩):=eg
     rw[e_e0,eg2]at hK ⊢
     have hlen:us.length=13:=(Dat.OwnVals.vals (S:=fun _=>True) (fun _ _=>trivial) hO).length
     have hth:=hgz.there
     rw[←hlen]at hth
     refine wp_store_mid 40 (.tmp 16) (.tmp 107) rfl g 0 us.toArray rfl rfl (by rw[List.size_toArray];exact hth) (by rw[List.size_toArray,hlen];kernel_rfl) (all_oneCell_toArray hO.oneCell) ?_
     exact rk130
    case s12 =>
     intro u wa s hs ha cl hJ K hK
     obtain⟨jB,j_ld,j_cp,j_lv,j_cv,j_call,j_mv,j_e0,j_e1,j_e2,j_zS,j_xS,j_zV,j_xV,j_ne⟩:=hJ
     have e_e1:=j_e1 (ha 7 (by kernel_rfl))
     simp only[Act.put,List.setIfInBounds_toArray,List.set_cons_zero,List.set_cons_succ,List.getElem_toArray,List.getElem_cons_zero,List.getElem_cons_succ]at hK ⊢
     rw[e_e1]at hK ⊢
     obtain⟨g,eg,hgN,hgz⟩:=j_zV (ha 10 (by kernel_rfl)) hs
     have eg2:u 10=.pointer (some ⟨g,0,none⟩):=eg
     rw[eg2]at hK ⊢
     refine wp_store_mid 43 (.tmp 17) (.tmp 108) rfl g 0 #[.int .i64 rk,.int .i64 rn,.int .i64 ri,.string rt,.int .i64 rlo,.int .i64 rhi] rfl rfl hgz.there (by kernel_rfl) (by simp[Value.oneCell']) ?_
     exact rk125
   case hlast =>
    simp only[putP,Act.put,List.setIfInBounds_toArray,List.set_cons_zero,List.set_cons_succ,List.getElem_toArray,List.getElem_cons_zero,List.getElem_cons_succ]
    intro u wa hJ K hK
    obtain⟨s,ha,jB,j_ld,j_cp,j_lv,j_cv,j_call,j_mv,j_e0,j_e1,j_e2,j_zS,j_xS,j_zV,j_xV,j_ne⟩:=hJ
    have e_e2:=j_e2 (ha 8 (by decide))
    obtain⟨us,LH,e_call,hOH,hNH,hLH⟩:=j_call (ha 4 (by decide))
    have e_e0:u 6=.agg us.toArray:=by have h:=(j_e0 (ha 6 (by decide))).symm.trans e_call;simpa using h
    have hS:=j_xS (ha 11 (by decide))
    rw[e_e0]at hS
    obtain⟨HA0,Hc0,-,HA1,Hc1,-,HA2,Hc2,-,HA3,Hc3,-,HA6,Hc6,-,HA7,Hc7,-,HA8,Hc8,-,-,rfl,-⟩:=TStore.vals_own hOH
    obtain⟨bH,-,eW,hWN,-⟩:=id hS
    have SH:=hS.sb eW
    obtain⟨cH,eX,hXN,VH⟩:=j_xV (ha 12 (by decide))
    have hneH:bH≠cH:=fun q=>j_ne (ha 9 (by decide)) (ha 10 (by decide)) bH eW (q▸eX)
    have HLLH:=hide (show ∀b,b∈LH→wJ.heap.size≤b∧b<wa.heap.size∧b≠bH∧b≠cH from fun b hb=>⟨(hLH b hb).1,hOH.lt _ _ _ b hb,fun q=>(hLH b hb).2 (Or.inl ⟨(ha 9 (by decide)),q▸eW⟩),fun q=>(hLH b hb).2 (Or.inr ⟨(ha 10 (by decide)),q▸eX⟩)⟩)
    have eW2:u 9=.pointer (some ⟨bH,0,none⟩):=eW
    have eX2:u 10=.pointer (some ⟨cH,0,none⟩):=eX
    rw[e_e2,eW2,eX2]at hK ⊢
    have HOH:=hide hOH
    have HNH:=hide hNH
    have hbWH:=jB
    simp only at VH
    clear j_ld j_cp j_lv j_cv j_call j_mv j_e0 j_e1 j_e2 j_zS j_xS j_zV j_xV j_ne hS eW eX eW2 eX2 e_call e_e0 e_e2 hLH hOH hNH ha
    go_simp
    refine hK.out _ _ ?_
    clear hK K
    obtain⟨wK,rfl⟩:∃x,x=wa:=⟨_,rfl⟩
    have NF:=hide (NJ.out.on hbWH)
    have HMK:=hide (TStore.OwnM.bel hbWH HMJ.out)
    have SH2:=hide SH
    have VH2:=hide VH
    clear NJ HMJ PJ QJ SH VH HLLH HNH hbwJ
    have pb:=SH2.out
    obtain⟨hlH,hfH,kH_0,kH_1,kH_2,kH_3,kH_4,kH_5,kH_6,kH_7,kH_8,kH_9,kH_10,kH_11,kH_12⟩:=pb
    have pb:=NF.out.sw
    obtain⟨hlW,hfW,kW_0,kW_1,kW_2,kW_3,kW_4,kW_5,kW_6,kW_7,kW_8,kW_9,kW_10,kW_11,kW_12⟩:=pb
    have pb:=VH2.out
    obtain⟨hlY,kY_0,kY_1,kY_2,kY_3,kY_4,kY_5⟩:=pb
    have pb:=NF.out.xw
    obtain⟨hlV,kV_0,kV_1,kV_2,kV_3,kV_4,kV_5⟩:=pb
    go_upto_region 31 with (first | (go_at_call 10;refine (eqStore_any (TStore.mk y0 y1 y2 y3 y4 y5 y6 y7 y8 y9 y10 y11 y12) (fun _=>True) (fun _=>True) _ _ _ (Dat.OwnVals.vals (S:=fun _=>True) (fun _ _=>trivial) HOH.out) (Dat.OwnVals.vals (S:=fun _=>True) (fun _ _=>trivial) NF.out.ow)).mono ?_;rintro e w15 ⟨rfl,hb15⟩;have py:=VB.on VH2.out hb15;have px:=VB.on NF.out.xw hb15;obtain⟨hly,py0,py1,py2,py3,py4,py5⟩:=py;obtain⟨hlx,px0,px1,px2,px3,px4,px5⟩:=px) | (go_at_call 11;refine (eqv_same rk rn ri rt rlo rhi _).mono ?_;rintro e wv15 ⟨rfl,hbv15⟩))
    clear hlH hfH kH_0 kH_1 kH_2 kH_3 kH_4 kH_5 kH_6 kH_7 kH_8 kH_9 kH_10 kH_11 kH_12
    clear hlW hfW kW_0 kW_1 kW_2 kW_3 kW_4 kW_5 kW_6 kW_7 kW_8 kW_9 kW_10 kW_11 kW_12
    clear hlY kY_0 kY_1 kY_2 kY_3 kY_4 kY_5
    clear hlV kV_0 kV_1 kV_2 kV_3 kV_4 kV_5
    refine wp_named2 fun wL hwL=>?_
    have hbKL:Bel wK wL:=by rw[←hwL];exact bl
    clear hwL
    (try clear hly py0 py1 py2 py3 py4 py5 hlx px0 px1 px2 px3 px4 px5)
    clear hb15 hbv15
    have NL:=hide (NF.out.on hbKL)
    have HML:=hide (TStore.OwnM.bel hbKL HMK.out)
    clear NF HMK hbKL
    have pb:=NL.out.sg
    obtain⟨hlG,hfG,kG_0,kG_1,kG_2,kG_3,kG_4,kG_5,kG_6,kG_7,kG_8,kG_9,kG_10,kG_11,kG_12⟩:=pb
    go_wp2_with (go_at_call 13;refine (heldStoreW_any (TStore.mk y0 y1 y2 y3 y4 y5 y6 y7 y8 y9 y10 y11 y12) LG _ _ 1 (TStore.OwnM.bel bl HML.out) (by omega) HCL.out).mono ?_;rintro e w16 ⟨rfl,hb16⟩;rw[HQ.out])
    all_goals
     go_returns
     exact⟨rfl,Bel.trans NL.out.bel bl⟩
end Go.Proofs.YtppmgodahloogaaGreatDoor
