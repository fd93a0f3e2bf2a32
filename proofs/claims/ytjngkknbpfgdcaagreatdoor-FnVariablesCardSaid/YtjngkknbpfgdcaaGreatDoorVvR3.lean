import Derived.Test.YtjngkknbpfgdcaaGreatDoorVvS9
import Derived.Test.YtjngkknbpfgdcaaGreatDoorVvWr9
import Derived.Test.YtjngkknbpfgdcaaGreatDoorVvWrA
set_option linter.unusedVariables false
set_option linter.unusedSimpArgs false
set_option maxRecDepth 100000
set_option maxHeartbeats 8000000
namespace Go.Proofs.YtjngkknbpfgdcaaGreatDoor
open Go.RowKit Go.Proofs.Tryz
--%quiet
def yO (s:O) (v:cC):Bool:=eP s&&eE s v
theorem iS (s:O) (v:cC) (S:Nat->Prop) (w:World) (vs:List Value) (hv:Y.cA w S s.D vs) (hx:v.Ok):Calls prog 13 #[.agg vs.toArray,.agg #[.int .i64 v.k,.int .i64 v.n,.int .i64 v.i,.string v.t,.int .i64 v.lo,.int .i64 v.hi]] w fun e w'=>e=.returned (.bool (yO s v))/\U w w':=by
 obtain⟨x0,x1,x2,x3,x4,x5,x6,x7,x8,x9,F,G,Z⟩:=s
 have HV:=I hv
 obtain⟨A0,c0,A1,c1,A2,c2,A3,c3,A6,c6,A7,c7,A8,c8,rfl,g0,g1,g2,g3,g4,g5,g6,g7,g8,-,g10,g11,g12⟩:=O.gK hv
 have xU:=I g0
 have fj:=g0.1
 have fm:=g0.2.1
 simp only[ar]at fj
 unfold maxLen at fm
 have qv:=I g1
 have fa:=g1.1
 have fb:=g1.2.1
 simp only[ar]at fa
 unfold maxLen at fb
 have kp:=I g2
 have ew:=g2.1
 have eL:=g2.2.1
 simp only[ar]at ew
 unfold maxLen at eL
 have Gm:=I g3
 have eK:=g3.1
 have eV:=g3.2.1
 simp only[ar]at eK
 unfold maxLen at eV
 have GW:=I g6
 have eX:=g6.1
 have eY:=g6.2.1
 simp only[ar]at eX
 unfold maxLen at eY
 have Vp:=I g7
 have fp:=g7.1
 have fq:=g7.2.1
 simp only[ar]at fp
 unfold maxLen at fq
 have OW:=I g8
 have fc:=g8.1
 have ff:=g8.2.1
 simp only[ar]at fc
 unfold maxLen at ff
 unfold maxLen at g4
 clear hv g0 g1 g2 g3 g6 g7 g8
 have FK:=I (show cv (w.alloc (.cells #[.slice A0 x0.length c0,.slice A1 x1.length c1,.slice A2 x2.length c2,.slice A3 x3.length c3,.string x4,.int .i64 x5,.slice A6 x6.length c6,.slice A7 x7.length c7,.slice A8 x8.length c8,.bool x9,.int .i64 F,.int .i64 G,.int .i64 Z] 30)) S w.heap.size (O.mk x0 x1 x2 x3 x4 x5 x6 x7 x8 x9 F G Z)from cv.zF HV.out rfl)
 have HX:=I hx
 obtain⟨k0,n0,i0,t0,qA,jh⟩:=v
 have fx:=hx.t
 have Wa:=hx.k
 unfold maxLen at fx
 clear hx
 simp only at fx Wa |-
 cases hb:eP (O.mk x0 x1 x2 x3 x4 x5 x6 x7 x8 x9 F G Z)
 ·
  have RR:=I (show yO (O.mk x0 x1 x2 x3 x4 x5 x6 x7 x8 x9 F G Z) ⟨k0,n0,i0,t0,qA,jh⟩=false by unfold yO;rw[hb];rfl)
  have HB:=I hb
  clear hb
  go_enter func13,ntmps13
  have eF:=True.intro
  repeat (any_goals ((first | clear eF | go_quiet (fail));(try go_wp2_with (first | (go_at_call 44;refine (vE (O.mk x0 x1 x2 x3 x4 x5 x6 x7 x8 x9 F G Z) S _ _ (Y.cA.de bl HV.out)).mono ?_;rintro e w1 ⟨rfl,dE⟩;rw[HB.out];(have jZ:=dE.sz;obtain⟨fA,fJ,fI,fP⟩:=dE.lay (w.heap.size);obtain⟨fX,fY,gi,gj⟩:=dE.lay (w.heap.size+1)))))))
  all_goals
   go_returns
   exact⟨by rw[RR.out];first | done | rfl,bl⟩
 ·
  have HB:=I hb
  cases hi:eE (O.mk x0 x1 x2 x3 x4 x5 x6 x7 x8 x9 F G Z) ⟨k0,n0,i0,t0,qA,jh⟩
  ·
   have RR:=I (show yO (O.mk x0 x1 x2 x3 x4 x5 x6 x7 x8 x9 F G Z) ⟨k0,n0,i0,t0,qA,jh⟩=false by unfold yO;rw[hb,hi];rfl)
   exact agm
  ·
   have RR:=I (show yO (O.mk x0 x1 x2 x3 x4 x5 x6 x7 x8 x9 F G Z) ⟨k0,n0,i0,t0,qA,jh⟩=true by unfold yO;rw[hb,hi];rfl)
   exact agm
theorem mN (s:O) (v:cC) (S:Nat->Prop) (w:World) (vs:List Value) (j6:Sp w) (hv:Y.cA w S s.D vs) (hx:v.Ok):Calls prog 35 #[.agg vs.toArray,.agg #[.int .i64 v.k,.int .i64 v.n,.int .i64 v.i,.string v.t,.int .i64 v.lo,.int .i64 v.hi]] w fun e w'=>e=.returned (.bool (yO s v))/\U w w':=by
 obtain⟨x0,x1,x2,x3,x4,x5,x6,x7,x8,x9,F,G,Z⟩:=s
 have HV:=I hv
 obtain⟨A0,c0,A1,c1,A2,c2,A3,c3,A6,c6,A7,c7,A8,c8,rfl,g0,g1,g2,g3,g4,g5,g6,g7,g8,-,g10,g11,g12⟩:=O.gK hv
 have xU:=I g0
 have fj:=g0.1
 have fm:=g0.2.1
 simp only[ar]at fj
 unfold maxLen at fm
 have qv:=I g1
 have fa:=g1.1
 have fb:=g1.2.1
 simp only[ar]at fa
 unfold maxLen at fb
 have kp:=I g2
 have ew:=g2.1
 have eL:=g2.2.1
 simp only[ar]at ew
 unfold maxLen at eL
 have Gm:=I g3
 have eK:=g3.1
 have eV:=g3.2.1
 simp only[ar]at eK
 unfold maxLen at eV
 have GW:=I g6
 have eX:=g6.1
 have eY:=g6.2.1
 simp only[ar]at eX
 unfold maxLen at eY
 have Vp:=I g7
 have fp:=g7.1
 have fq:=g7.2.1
 simp only[ar]at fp
 unfold maxLen at fq
 have OW:=I g8
 have fc:=g8.1
 have ff:=g8.2.1
 simp only[ar]at fc
 unfold maxLen at ff
 unfold maxLen at g4
 clear hv g0 g1 g2 g3 g6 g7 g8
 have FK:=I (show cv (w.alloc (.cells #[.slice A0 x0.length c0,.slice A1 x1.length c1,.slice A2 x2.length c2,.slice A3 x3.length c3,.string x4,.int .i64 x5,.slice A6 x6.length c6,.slice A7 x7.length c7,.slice A8 x8.length c8,.bool x9,.int .i64 F,.int .i64 G,.int .i64 Z] 30)) S w.heap.size (O.mk x0 x1 x2 x3 x4 x5 x6 x7 x8 x9 F G Z)from cv.zF HV.out rfl)
 have HT:=I j6
 clear j6
 have HX:=I hx
 obtain⟨k0,n0,i0,t0,qA,jh⟩:=v
 have fx:=hx.t
 have Wa:=hx.k
 unfold maxLen at fx
 clear hx
 simp only at fx Wa |-
 cases hb:eP (O.mk x0 x1 x2 x3 x4 x5 x6 x7 x8 x9 F G Z)
 ·
  have RR:=I (show yO (O.mk x0 x1 x2 x3 x4 x5 x6 x7 x8 x9 F G Z) ⟨k0,n0,i0,t0,qA,jh⟩=false by unfold yO;rw[hb];rfl)
  have HB:=I hb
  clear hb
  go_enter func35,ntmps35
  have eF:=True.intro
  repeat (any_goals ((first | clear eF | go_quiet (fail));(try go_wp2_with (first | (go_at_call 10;refine (jn (O.mk x0 x1 x2 x3 x4 x5 x6 x7 x8 x9 F G Z) S _ _ (HT.out.on bl) (Y.cA.de bl HV.out)).mono ?_;rintro e w1 ⟨rfl,dE⟩;rw[HB.out];(have jZ:=dE.sz;obtain⟨fA,fJ,fI,fP⟩:=dE.lay (w.heap.size);obtain⟨fX,fY,gi,gj⟩:=dE.lay (w.heap.size+1)))))))
  all_goals
   go_returns
   exact⟨by rw[RR.out];first | done | rfl,bl⟩
 ·
  have HB:=I hb
  cases hi:eE (O.mk x0 x1 x2 x3 x4 x5 x6 x7 x8 x9 F G Z) ⟨k0,n0,i0,t0,qA,jh⟩
  ·
   have RR:=I (show yO (O.mk x0 x1 x2 x3 x4 x5 x6 x7 x8 x9 F G Z) ⟨k0,n0,i0,t0,qA,jh⟩=false by unfold yO;rw[hb,hi];rfl)
   exact agn
  ·
   have RR:=I (show yO (O.mk x0 x1 x2 x3 x4 x5 x6 x7 x8 x9 F G Z) ⟨k0,n0,i0,t0,qA,jh⟩=true by unfold yO;rw[hb,hi];rfl)
   exact agn
theorem D5 {s:O} (h:eP s=true):s.uB.size<=120:=by
 unfold eP sX at h
 simp only[Bool.and_eq_true,decide_eq_true_eq]at h
 exact h.1.1.1.1.1.1.1.1.1.1.1.1.2
theorem JK (s:O) (r:cC) (hval:eP s=true) (gf:eE s r=true) (hk:13<=r.k/\r.k<=18):KI 34 s r:=by
 obtain⟨k,n,i,t,lo,hi⟩:=r
 replace hk:13<=k/\k<=18:=hk
 rcases (show k=13\/k=14\/k=15\/k=16\/k=17\/k=18 by omega)with rfl | rfl | rfl | rfl | rfl | rfl
 ·
  exact ML n i t lo hi s gf
 ·
  exact MM n i t lo hi s gf
 ·
  exact MN n i t lo hi s gf
 ·
  exact MO n i t lo hi s gf
 ·
  exact MP n i t lo hi s hval gf
 ·
  exact MQ n i t lo hi s gf (D5 hval)
theorem JL (s:O) (r:cC) (hval:eP s=true) (gf:eE s r=true) (hk:13<=r.k/\r.k<=18):KI 30 s r:=by
 obtain⟨k,n,i,t,lo,hi⟩:=r
 replace hk:13<=k/\k<=18:=hk
 rcases (show k=13\/k=14\/k=15\/k=16\/k=17\/k=18 by omega)with rfl | rfl | rfl | rfl | rfl | rfl
 ·
  exact MR n i t lo hi s gf
 ·
  exact MS n i t lo hi s gf
 ·
  exact MT n i t lo hi s gf
 ·
  exact MU n i t lo hi s gf
 ·
  exact MV n i t lo hi s hval gf
 ·
  exact MW n i t lo hi s gf (D5 hval)
def WvP (w:World) (s:O) (r v:cC) (e:Ending) (w':World):Prop :=
 ∃(us:List Value) (L:List Nat),e=.returned (.tuple #[.agg us.toArray,.int .i64 (Bd s r v)])/\Y.dh w' L (yZ s r v).D us/\L.Nodup/\(∀b,b∈L->w.heap.size<=b)/\U w w'
abbrev WvC (f:FuncId):Prop:=∀(s:O) (r v:cC) (S:Nat->Prop) (w:World) (vs:List Value),Sp w->U7 w->Y.cA w S s.D vs->r.Ok->v.Ok->Y.Gf s.D<=1048576->Calls prog f #[.agg vs.toArray,r.val,v.val] w (WvP w s r v)
theorem pc {w w':World} {s:O} {r v:cC} {c:Int} (hc:Bd s r v=c) (ht:yZ s r v=sY) (hb:U w w'):WvP w s r v (.returned (.tuple #[.agg #[.slice none 0 0,.slice none 0 0,.slice none 0 0,.slice none 0 0,.string ByteArray.empty,.int .i64 0,.slice none 0 0,.slice none 0 0,.slice none 0 0,.bool false,.int .i64 0,.int .i64 0,.int .i64 0],.int .i64 c])) w' :=
 ⟨_,_,by rw[hc],by rw[ht];exact Mj w',by simp,fun b hb=>by simp at hb,hb⟩
theorem Yc {w6 w7:World} {c:Nat} {v0 v1 v2 v3 v4 v5 v6 v7 v8 v9 v10 v11 v12 u0 u1 u2 u3 u4 u5 u6 u7 u8 u9 rX rY qu:Value} (h:SB w6 c v0 v1 v2 v3 v4 v5 v6 v7 v8 v9 v10 v11 v12) (hw:(((((((((((((w6.setCell ⟨c,0,none⟩ u0).setCell ⟨c,1,none⟩ u1).setCell ⟨c,2,none⟩ u2).setCell ⟨c,3,none⟩ u3).setCell ⟨c,4,none⟩ u4).setCell ⟨c,5,none⟩ u5).setCell ⟨c,6,none⟩ u6).setCell ⟨c,7,none⟩ u7).setCell ⟨c,8,none⟩ u8).setCell ⟨c,9,none⟩ u9).setCell ⟨c,10,none⟩ rX).setCell ⟨c,11,none⟩ rY).setCell ⟨c,12,none⟩ qu)=w7) :
  SB w7 c u0 u1 u2 u3 u4 u5 u6 u7 u8 u9 rX rY qu/\gp (fun b=>b≠c) w6 w7:=by
 subst hw
 exact⟨(((((((((((((h.yR u0).xY u1).rV u2).rT u3).CZ u4).Ps u5).tC u6).LD u7).IZ u8).Uy u9).Kr rX).Ks rY).Gy qu),gp.set (gp.set (gp.set (gp.set (gp.set (gp.set (gp.set (gp.set (gp.set (gp.set (gp.set (gp.set (gp.set (gp.refl (fun b=>b≠c) w6) (fun q=>q rfl) u0) (fun q=>q rfl) u1) (fun q=>q rfl) u2) (fun q=>q rfl) u3) (fun q=>q rfl) u4) (fun q=>q rfl) u5) (fun q=>q rfl) u6) (fun q=>q rfl) u7) (fun q=>q rfl) u8) (fun q=>q rfl) u9) (fun q=>q rfl) rX) (fun q=>q rfl) rY) (fun q=>q rfl) qu⟩
theorem agp {w:World} {b:Nat} {v0 v1 v2 v3 v4 v5 v6 v7 v8 v9 v10 v11 v12:Value} (h:SB w b v0 v1 v2 v3 v4 v5 v6 v7 v8 v9 v10 v11 v12) (j:Nat) (hj:j<13):w.cell? ⟨b,j,none⟩=[v0,v1,v2,v3,v4,v5,v6,v7,v8,v9,v10,v11,v12][j]?:=by
 obtain⟨lP,l4,k0,k1,k2,k3,k4,k5,k6,k7,k8,k9,Uo,Up,Uq⟩:=h
 match j,hj with
 | 0,_=>exact k0
 | 1,_=>exact k1
 | 2,_=>exact k2
 | 3,_=>exact k3
 | 4,_=>exact k4
 | 5,_=>exact k5
 | 6,_=>exact k6
 | 7,_=>exact k7
 | 8,_=>exact k8
 | 9,_=>exact k9
 | 10,_=>exact Uo
 | 11,_=>exact Up
 | 12,_=>exact Uq
 | m+13,h=>omega
theorem WO.sb {N:Nat} {w:World} {q:Nat} {vs:List Value} {L:List Nat} {x0:List cx} {x1:List cw} {x2:List cr} {x3:List R} {x4:cx} {x5:Int} {x6 x7:List cx} {x8:List cV} {x9:Bool} {F G Z:Int} (h:WO N w q (.mk x0 x1 x2 x3 x4 x5 x6 x7 x8 x9 F G Z) vs L):∃E0 f0 E1 f1 E2 f2 E3 f3 E6 f6 E7 f7 E8 f8,vs=[.slice E0 x0.length f0,.slice E1 x1.length f1,.slice E2 x2.length f2,.slice E3 x3.length f3,.string x4,.int .i64 x5,.slice E6 x6.length f6,.slice E7 x7.length f7,.slice E8 x8.length f8,.bool x9,.int .i64 F,.int .i64 G,.int .i64 Z]/\SB w q (.slice E0 x0.length f0) (.slice E1 x1.length f1) (.slice E2 x2.length f2) (.slice E3 x3.length f3) (.string x4) (.int .i64 x5) (.slice E6 x6.length f6) (.slice E7 x7.length f7) (.slice E8 x8.length f8) (.bool x9) (.int .i64 F) (.int .i64 G) (.int .i64 Z):=by
 obtain⟨A0,c0,L0,A1,c1,L1,A2,c2,L2,A3,c3,L3,A6,c6,L6,A7,c7,L7,A8,c8,L8,hL,tK,-⟩:=h.parts
 have hc:=h.cell
 rw[tK]at hc
 exact⟨A0,c0,A1,c1,A2,c2,A3,c3,A6,c6,A7,c7,A8,c8,tK,h.lt,h.fr,hc 0 aI,hc 1 aI,hc 2 aI,hc 3 aI,hc 4 aI,hc 5 aI,hc 6 aI,hc 7 aI,hc 8 aI,hc 9 aI,hc 10 aI,hc 11 aI,hc 12 aI⟩
--%quiet
def lh (s:O) (v:cC):cC × Int:=if yO s v=true/\v.k<=18 then nG s v else (zeroV,111)
theorem Yd {P:Program} {c:Code} {Q:Exit->Act->World->Prop} {a:Act} {W2:World} {t:TypeId} {x0 x1 x2 x3 x4 x5:Value} (h:∀w3,U W2 w3->w3.cell? ⟨W2.heap.size,0,none⟩=some x0->w3.cell? ⟨W2.heap.size,1,none⟩=some x1->w3.cell? ⟨W2.heap.size,2,none⟩=some x2->w3.cell? ⟨W2.heap.size,3,none⟩=some x3->w3.cell? ⟨W2.heap.size,4,none⟩=some x4->w3.cell? ⟨W2.heap.size,5,none⟩=some x5->W2.heap.size<w3.heap.size->Code.wp P c Q a w3):Code.wp P c Q a (W2.alloc (.cells #[x0,x1,x2,x3,x4,x5] t)) :=
 h _ (U.alloc (U.refl _) _) aJ aJ aJ aJ aJ aJ aJ
theorem FL (s:O) (v:cC) (S:Nat->Prop) (w:World) (vs:List Value) (hv:Y.cA w S s.D vs) (hx:v.Ok):Calls prog 14 #[.agg vs.toArray,.agg #[.int .i64 v.k,.int .i64 v.n,.int .i64 v.i,.string v.t,.int .i64 v.lo,.int .i64 v.hi]] w fun e w'=>e=.returned (.tuple #[(lh s v).1.val,.int .i64 (lh s v).2])/\U w w':=by
 obtain⟨x0,x1,x2,x3,x4,x5,x6,x7,x8,x9,F,G,Z⟩:=s
 have HV:=I hv
 obtain⟨A0,c0,A1,c1,A2,c2,A3,c3,A6,c6,A7,c7,A8,c8,rfl,g0,g1,g2,g3,g4,g5,g6,g7,g8,-,g10,g11,g12⟩:=O.gK hv
 have xU:=I g0
 have fj:=g0.1
 have fm:=g0.2.1
 simp only[ar]at fj
 unfold maxLen at fm
 have qv:=I g1
 have fa:=g1.1
 have fb:=g1.2.1
 simp only[ar]at fa
 unfold maxLen at fb
 have kp:=I g2
 have ew:=g2.1
 have eL:=g2.2.1
 simp only[ar]at ew
 unfold maxLen at eL
 have Gm:=I g3
 have eK:=g3.1
 have eV:=g3.2.1
 simp only[ar]at eK
 unfold maxLen at eV
 have GW:=I g6
 have eX:=g6.1
 have eY:=g6.2.1
 simp only[ar]at eX
 unfold maxLen at eY
 have Vp:=I g7
 have fp:=g7.1
 have fq:=g7.2.1
 simp only[ar]at fp
 unfold maxLen at fq
 have OW:=I g8
 have fc:=g8.1
 have ff:=g8.2.1
 simp only[ar]at fc
 unfold maxLen at ff
 unfold maxLen at g4
 clear hv g0 g1 g2 g3 g6 g7 g8
 have FK:=I (show cv (w.alloc (.cells #[.slice A0 x0.length c0,.slice A1 x1.length c1,.slice A2 x2.length c2,.slice A3 x3.length c3,.string x4,.int .i64 x5,.slice A6 x6.length c6,.slice A7 x7.length c7,.slice A8 x8.length c8,.bool x9,.int .i64 F,.int .i64 G,.int .i64 Z] 30)) S w.heap.size (O.mk x0 x1 x2 x3 x4 x5 x6 x7 x8 x9 F G Z)from cv.zF HV.out rfl)
 have HX:=I hx
 obtain⟨k0,n0,i0,t0,qA,jh⟩:=v
 have fx:=hx.t
 have Wa:=hx.k
 unfold maxLen at fx
 clear hx
 simp only at fx Wa |-
 cases hb:yO (O.mk x0 x1 x2 x3 x4 x5 x6 x7 x8 x9 F G Z) ⟨k0,n0,i0,t0,qA,jh⟩
 ·
  have RR:=I (show lh (O.mk x0 x1 x2 x3 x4 x5 x6 x7 x8 x9 F G Z) ⟨k0,n0,i0,t0,qA,jh⟩=(zeroV,111) by unfold lh;rw[hb];rfl)
  have HB:=I hb
  clear hb
  exact agq
 ·
  have HB:=I hb
  have hval:eP (O.mk x0 x1 x2 x3 x4 x5 x6 x7 x8 x9 F G Z)=true:=by unfold yO at hb;rw[Bool.and_eq_true]at hb;exact hb.1
  have gf:eE (O.mk x0 x1 x2 x3 x4 x5 x6 x7 x8 x9 F G Z) ⟨k0,n0,i0,t0,qA,jh⟩=true:=by unfold yO at hb;rw[Bool.and_eq_true]at hb;exact hb.2
  have HVL:=I hval
  have HIN:=I gf
  clear hval gf
  by_cases hk:k0<=18
  ·
   have dk:decide (18<k0)=false:=aH
   obtain⟨⟨r0,r1,r2,r3,r4,r5⟩,rc,hr⟩:∃(r:cC) (c:Int),nG (O.mk x0 x1 x2 x3 x4 x5 x6 x7 x8 x9 F G Z) ⟨k0,n0,i0,t0,qA,jh⟩=(r,c):=⟨_,_,rfl⟩
   have HR:=I hr
   have RR:=I (show lh (O.mk x0 x1 x2 x3 x4 x5 x6 x7 x8 x9 F G Z) ⟨k0,n0,i0,t0,qA,jh⟩=(⟨r0,r1,r2,r3,r4,r5⟩,rc) by unfold lh;rw[if_pos ⟨hb,hk⟩];exact hr)
   have HK:=I hk
   clear hb hr
   go_enter func14,ntmps14
   have eF:=True.intro
   repeat (any_goals ((first | clear eF | go_quiet (fail));(try go_wp2_with (first | (go_at_call 13;refine (iS (O.mk x0 x1 x2 x3 x4 x5 x6 x7 x8 x9 F G Z) ⟨k0,n0,i0,t0,qA,jh⟩ S _ _ (Y.cA.de bl HV.out) HX.out).mono ?_;rintro e w1 ⟨rfl,dE⟩;rw[HB.out];(have jZ:=dE.sz;obtain⟨fA,fJ,fI,fP⟩:=dE.lay (w.heap.size);obtain⟨fX,fY,gi,gj⟩:=dE.lay (w.heap.size+1);obtain⟨my,mz,mA,mB⟩:=dE.lay (w.heap.size+1+1));have Z1:=Z6.on Z6.new dE;(try simp only[World.size_alloc]at Z1)) | (go_at_call 46;refine (JH (O.mk x0 x1 x2 x3 x4 x5 x6 x7 x8 x9 F G Z) ⟨k0,n0,i0,t0,qA,jh⟩ HVL.out HIN.out HK.out S w.heap.size _ (cv.de bl FK.out) HX.out).mono ?_;rintro e w2 ⟨rfl,gC⟩;rw[HR.out];simp only[cC.val];(have xX:=gC.sz;obtain⟨vF,vG,vH,vK⟩:=gC.lay (w.heap.size);obtain⟨D6,D7,D8,Ea⟩:=gC.lay (w.heap.size+1);obtain⟨QJ,QK,QL,QM⟩:=gC.lay (w.heap.size+1+1));have Z2:=Z6.on Z1 gC)))))
   all_goals
    refine po (Z6.on Z2 bl) fun wz d0 d1 d2 d3 d4 d5 sS=>?_
    refine bodyPost_ret (v:=.tuple #[.agg #[.int .i64 r0,.int .i64 r1,.int .i64 r2,.string r3,.int .i64 r4,.int .i64 r5],.int .i64 rc]) (by simp[results,results14,go_sem,d0,d1,d2,d3,d4,d5] <;> rfl) rfl ⟨?_,sS _ bl aF⟩
    rw[RR.out];first | done | rfl
  ·
   have dk:decide (18<k0)=true:=aH
   have RR:=I (show lh (O.mk x0 x1 x2 x3 x4 x5 x6 x7 x8 x9 F G Z) ⟨k0,n0,i0,t0,qA,jh⟩=(zeroV,111) by unfold lh;rw[if_neg (fun h=>hk h.2)])
   clear hb hk
   exact agq
theorem yr (s:O) (v:cC) (S:Nat->Prop) (w:World) (vs:List Value) (j6:Sp w) (hv:Y.cA w S s.D vs) (hx:v.Ok):Calls prog 9 #[.agg vs.toArray,.agg #[.int .i64 v.k,.int .i64 v.n,.int .i64 v.i,.string v.t,.int .i64 v.lo,.int .i64 v.hi]] w fun e w'=>e=.returned (.tuple #[(lh s v).1.val,.int .i64 (lh s v).2])/\U w w':=by
 obtain⟨x0,x1,x2,x3,x4,x5,x6,x7,x8,x9,F,G,Z⟩:=s
 have HV:=I hv
 obtain⟨A0,c0,A1,c1,A2,c2,A3,c3,A6,c6,A7,c7,A8,c8,rfl,g0,g1,g2,g3,g4,g5,g6,g7,g8,-,g10,g11,g12⟩:=O.gK hv
 have xU:=I g0
 have fj:=g0.1
 have fm:=g0.2.1
 simp only[ar]at fj
 unfold maxLen at fm
 have qv:=I g1
 have fa:=g1.1
 have fb:=g1.2.1
 simp only[ar]at fa
 unfold maxLen at fb
 have kp:=I g2
 have ew:=g2.1
 have eL:=g2.2.1
 simp only[ar]at ew
 unfold maxLen at eL
 have Gm:=I g3
 have eK:=g3.1
 have eV:=g3.2.1
 simp only[ar]at eK
 unfold maxLen at eV
 have GW:=I g6
 have eX:=g6.1
 have eY:=g6.2.1
 simp only[ar]at eX
 unfold maxLen at eY
 have Vp:=I g7
 have fp:=g7.1
 have fq:=g7.2.1
 simp only[ar]at fp
 unfold maxLen at fq
 have OW:=I g8
 have fc:=g8.1
 have ff:=g8.2.1
 simp only[ar]at fc
 unfold maxLen at ff
 unfold maxLen at g4
 clear hv g0 g1 g2 g3 g6 g7 g8
 have FK:=I (show cv (w.alloc (.cells #[.slice A0 x0.length c0,.slice A1 x1.length c1,.slice A2 x2.length c2,.slice A3 x3.length c3,.string x4,.int .i64 x5,.slice A6 x6.length c6,.slice A7 x7.length c7,.slice A8 x8.length c8,.bool x9,.int .i64 F,.int .i64 G,.int .i64 Z] 30)) S w.heap.size (O.mk x0 x1 x2 x3 x4 x5 x6 x7 x8 x9 F G Z)from cv.zF HV.out rfl)
 have HT:=I j6
 clear j6
 have HX:=I hx
 obtain⟨k0,n0,i0,t0,qA,jh⟩:=v
 have fx:=hx.t
 have Wa:=hx.k
 unfold maxLen at fx
 clear hx
 simp only at fx Wa |-
 cases hb:yO (O.mk x0 x1 x2 x3 x4 x5 x6 x7 x8 x9 F G Z) ⟨k0,n0,i0,t0,qA,jh⟩
 ·
  have RR:=I (show lh (O.mk x0 x1 x2 x3 x4 x5 x6 x7 x8 x9 F G Z) ⟨k0,n0,i0,t0,qA,jh⟩=(zeroV,111) by unfold lh;rw[hb];rfl)
  have HB:=I hb
  clear hb
  go_enter func9,ntmps9
  have eF:=True.intro
  repeat (any_goals ((first | clear eF | go_quiet (fail));(try go_wp2_with (first | (go_at_call 35;refine (mN (O.mk x0 x1 x2 x3 x4 x5 x6 x7 x8 x9 F G Z) ⟨k0,n0,i0,t0,qA,jh⟩ S _ _ (HT.out.on bl) (Y.cA.de bl HV.out) HX.out).mono ?_;rintro e w1 ⟨rfl,dE⟩;rw[HB.out];(have jZ:=dE.sz;obtain⟨fA,fJ,fI,fP⟩:=dE.lay (w.heap.size);obtain⟨fX,fY,gi,gj⟩:=dE.lay (w.heap.size+1);obtain⟨my,mz,mA,mB⟩:=dE.lay (w.heap.size+1+1));have Z1:=Z6.on Z6.new dE;(try simp only[World.size_alloc]at Z1))))))
  all_goals
   refine po (Z6.on Z1 bl) fun wz d0 d1 d2 d3 d4 d5 sS=>?_
   refine bodyPost_ret (v:=.tuple #[.agg #[.int .i64 0,.int .i64 0,.int .i64 0,.string ByteArray.empty,.int .i64 0,.int .i64 0],.int .i64 111]) (by simp[results,results9,go_sem,d0,d1,d2,d3,d4,d5] <;> rfl) rfl ⟨?_,sS _ bl aF⟩
   rw[RR.out];first | done | rfl
 ·
  have HB:=I hb
  have hval:eP (O.mk x0 x1 x2 x3 x4 x5 x6 x7 x8 x9 F G Z)=true:=by unfold yO at hb;rw[Bool.and_eq_true]at hb;exact hb.1
  have gf:eE (O.mk x0 x1 x2 x3 x4 x5 x6 x7 x8 x9 F G Z) ⟨k0,n0,i0,t0,qA,jh⟩=true:=by unfold yO at hb;rw[Bool.and_eq_true]at hb;exact hb.2
  have HVL:=I hval
  have HIN:=I gf
  clear hval gf
  by_cases hk:k0<=18
  ·
   have dk:decide (18<k0)=false:=aH
   obtain⟨⟨r0,r1,r2,r3,r4,r5⟩,rc,hr⟩:∃(r:cC) (c:Int),nG (O.mk x0 x1 x2 x3 x4 x5 x6 x7 x8 x9 F G Z) ⟨k0,n0,i0,t0,qA,jh⟩=(r,c):=⟨_,_,rfl⟩
   have HR:=I hr
   have RR:=I (show lh (O.mk x0 x1 x2 x3 x4 x5 x6 x7 x8 x9 F G Z) ⟨k0,n0,i0,t0,qA,jh⟩=(⟨r0,r1,r2,r3,r4,r5⟩,rc) by unfold lh;rw[if_pos ⟨hb,hk⟩];exact hr)
   have HK:=I hk
   clear hb hr
   go_enter func9,ntmps9
   go_upto_region 4 with (first | (go_at_call 35;refine (mN (O.mk x0 x1 x2 x3 x4 x5 x6 x7 x8 x9 F G Z) ⟨k0,n0,i0,t0,qA,jh⟩ S _ _ (HT.out.on bl) (Y.cA.de bl HV.out) HX.out).mono ?_;rintro e w1 ⟨rfl,dE⟩;rw[HB.out];(have jZ:=dE.sz;obtain⟨fA,fJ,fI,fP⟩:=dE.lay (w.heap.size);obtain⟨fX,fY,gi,gj⟩:=dE.lay (w.heap.size+1);obtain⟨my,mz,mA,mB⟩:=dE.lay (w.heap.size+1+1));have Z1:=Z6.on Z6.new dE;(try simp only[World.size_alloc]at Z1)) | (go_at_call 36;refine (JJ (O.mk x0 x1 x2 x3 x4 x5 x6 x7 x8 x9 F G Z) ⟨k0,n0,i0,t0,qA,jh⟩ HVL.out HIN.out HK.out S w.heap.size _ (cv.de bl FK.out) HX.out).mono ?_;rintro e w2 ⟨rfl,gC⟩;rw[HR.out];simp only[cC.val];(have xX:=gC.sz;obtain⟨vF,vG,vH,vK⟩:=gC.lay (w.heap.size);obtain⟨D6,D7,D8,Ea⟩:=gC.lay (w.heap.size+1);obtain⟨QJ,QK,QL,QM⟩:=gC.lay (w.heap.size+1+1));have Z2:=Z6.on Z1 gC))
   refine Yd fun w3 h23 y0 y1 y2 y3 y4 y5 ly=>?_
   have Z3:=Z6.on Z2 h23
   have YZ:=Z3
   obtain⟨cc0,cc1,cc2,cc3,cc4,cc5,cf,cl⟩:=YZ
   have hbf:U w w3:=bl
   have nyr:¬w.heap.size+1+1=w2.heap.size:=aF
   clear h23
   go_wp2_with (fail)
   repeat (any_goals (go_quiet (fail);(try go_wp2_with (fail))))
   all_goals
    refine po (Z6.on Z3 bl) fun wz d0 d1 d2 d3 d4 d5 sS=>?_
    refine bodyPost_ret (v:=.tuple #[.agg #[.int .i64 r0,.int .i64 r1,.int .i64 r2,.string r3,.int .i64 r4,.int .i64 r5],.int .i64 rc]) (by simp[results,results9,go_sem,d0,d1,d2,d3,d4,d5] <;> rfl) rfl ⟨?_,sS _ bl aF⟩
    rw[RR.out];first | done | rfl
  ·
   have dk:decide (18<k0)=true:=aH
   have RR:=I (show lh (O.mk x0 x1 x2 x3 x4 x5 x6 x7 x8 x9 F G Z) ⟨k0,n0,i0,t0,qA,jh⟩=(zeroV,111) by unfold lh;rw[if_neg (fun h=>hk h.2)])
   have nF:k0=19\/k0=20:=by
    have hw:=gg HIN.out
    rcases pt k0 with h | h | h | h | h | h | h | h | h | h | h | h | h | h | h | h | h | h | h | h | h | h | h <;> first | omega | (exfalso;unfold dD at hw;(repeat rw[if_neg (by simp only;omega)]at hw);cases hw)
   clear hb hk
   rcases nF with rfl | rfl
   ·
    clear dk Wa
    go_enter func9,ntmps9
    go_upto_region 4 with (first | (go_at_call 35;refine (mN (O.mk x0 x1 x2 x3 x4 x5 x6 x7 x8 x9 F G Z) ⟨19,n0,i0,t0,qA,jh⟩ S _ _ (HT.out.on bl) (Y.cA.de bl HV.out) HX.out).mono ?_;rintro e w1 ⟨rfl,dE⟩;rw[HB.out];(have jZ:=dE.sz;obtain⟨fA,fJ,fI,fP⟩:=dE.lay (w.heap.size);obtain⟨fX,fY,gi,gj⟩:=dE.lay (w.heap.size+1);obtain⟨my,mz,mA,mB⟩:=dE.lay (w.heap.size+1+1));have Z1:=Z6.on Z6.new dE;(try simp only[World.size_alloc]at Z1)) | (go_at_call 36;refine (MI _ _ _ _ _ (O.mk x0 x1 x2 x3 x4 x5 x6 x7 x8 x9 F G Z) S w.heap.size _ (cv.de bl FK.out)).mono ?_;rintro e w2 ⟨rfl,gC⟩;simp only[cC.val,zeroV];(have xX:=gC.sz;obtain⟨vF,vG,vH,vK⟩:=gC.lay (w.heap.size);obtain⟨D6,D7,D8,Ea⟩:=gC.lay (w.heap.size+1);obtain⟨QJ,QK,QL,QM⟩:=gC.lay (w.heap.size+1+1));have Z2:=Z6.on Z1 gC))
    exact Ye
   ·
    clear dk Wa
    go_enter func9,ntmps9
    go_upto_region 4 with (first | (go_at_call 35;refine (mN (O.mk x0 x1 x2 x3 x4 x5 x6 x7 x8 x9 F G Z) ⟨20,n0,i0,t0,qA,jh⟩ S _ _ (HT.out.on bl) (Y.cA.de bl HV.out) HX.out).mono ?_;rintro e w1 ⟨rfl,dE⟩;rw[HB.out];(have jZ:=dE.sz;obtain⟨fA,fJ,fI,fP⟩:=dE.lay (w.heap.size);obtain⟨fX,fY,gi,gj⟩:=dE.lay (w.heap.size+1);obtain⟨my,mz,mA,mB⟩:=dE.lay (w.heap.size+1+1));have Z1:=Z6.on Z6.new dE;(try simp only[World.size_alloc]at Z1)) | (go_at_call 36;refine (MJ _ _ _ _ _ (O.mk x0 x1 x2 x3 x4 x5 x6 x7 x8 x9 F G Z) S w.heap.size _ (cv.de bl FK.out)).mono ?_;rintro e w2 ⟨rfl,gC⟩;simp only[cC.val,zeroV];(have xX:=gC.sz;obtain⟨vF,vG,vH,vK⟩:=gC.lay (w.heap.size);obtain⟨D6,D7,D8,Ea⟩:=gC.lay (w.heap.size+1);obtain⟨QJ,QK,QL,QM⟩:=gC.lay (w.heap.size+1+1));have Z2:=Z6.on Z1 gC))
    exact Ye
end Go.Proofs.YtjngkknbpfgdcaaGreatDoor
