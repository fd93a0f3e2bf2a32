import Derived.Test.YtjngkknbpfgdcaaGreatDoorPr
import Derived.Test.YtjngkknbpfgdcaaGreatDoorPS8
import Derived.Test.YtjngkknbpfgdcaaGreatDoorPS9
import Derived.Test.YtjngkknbpfgdcaaGreatDoorPR0
import Derived.Test.YtjngkknbpfgdcaaGreatDoorPWr7
import Derived.Test.YtjngkknbpfgdcaaGreatDoorPWr9
import Derived.Test.YtjngkknbpfgdcaaGreatDoorPWrA
import Derived.Test.YtjngkknbpfgdcaaGreatDoorPK2b
import Derived.Deep.MidRow
import Derived.Test.YtjngkknbpfgdcaaGreatDoorPWr0
import Derived.Test.YtjngkknbpfgdcaaGreatDoorPNb
set_option linter.unusedVariables false
set_option linter.unusedSimpArgs false
set_option maxRecDepth 100000
set_option maxHeartbeats 8000000
namespace Go.Proofs.YtjngkknbpfgdcaaGreatDoor
open Go.RowKit
--%quiet
def S7 (s:cv) (v:cV):Bool:=gJ s&&inB s v
theorem mf (s:cv) (v:cV) (S:Nat->Prop) (w:World) (vs:List Value) (hv:Dat.cC w S s.D vs) (hx:v.Ok):Calls Tryz.prog 13 #[.agg vs.toArray,.agg #[.int .i64 v.k,.int .i64 v.n,.int .i64 v.i,.string v.t,.int .i64 v.lo,.int .i64 v.hi]] w fun e w'=>e=.returned (.bool (S7 s v))/\cE w w':=by
 obtain⟨x0,x1,x2,x3,x4,x5,x6,x7,x8,x9,x10,x11,x12⟩:=s
 have HV:=hide hv
 obtain⟨A0,c0,A1,c1,A2,c2,A3,c3,A6,c6,A7,c7,A8,c8,rfl,g0,g1,g2,g3,g4,g5,g6,g7,g8,-,g10,g11,g12⟩:=cv.vals hv
 have HR0:=hide g0
 have gg:=g0.1
 have hcm0:=g0.2.1
 simp only[aj]at gg
 unfold maxLen at hcm0
 have HR1:=hide g1
 have ga:=g1.1
 have hcm1:=g1.2.1
 simp only[aj]at ga
 unfold maxLen at hcm1
 have HR2:=hide g2
 have fB:=g2.1
 have hcm2:=g2.2.1
 simp only[aj]at fB
 unfold maxLen at hcm2
 have HR3:=hide g3
 have fL:=g3.1
 have fV:=g3.2.1
 simp only[aj]at fL
 unfold maxLen at fV
 have IK:=hide g6
 have fW:=g6.1
 have fZ:=g6.2.1
 simp only[aj]at fW
 unfold maxLen at fZ
 have HR7:=hide g7
 have gh:=g7.1
 have gi:=g7.2.1
 simp only[aj]at gh
 unfold maxLen at gi
 have SE:=hide g8
 have gb:=g8.1
 have gd:=g8.2.1
 simp only[aj]at gb
 unfold maxLen at gd
 unfold maxLen at g4
 clear hv g0 g1 g2 g3 g6 g7 g8
 have Oy:=hide (show cG (w.alloc (.cells #[.slice A0 x0.length c0,.slice A1 x1.length c1,.slice A2 x2.length c2,.slice A3 x3.length c3,.string x4,.int .i64 x5,.slice A6 x6.length c6,.slice A7 x7.length c7,.slice A8 x8.length c8,.bool x9,.int .i64 x10,.int .i64 x11,.int .i64 x12] 30)) S w.heap.size (cv.mk x0 x1 x2 x3 x4 x5 x6 x7 x8 x9 x10 x11 x12)from cG.EX HV.out rfl)
 have HX:=hide hx
 obtain⟨k0,n0,i0,t0,Mn,hi0⟩:=v
 have hts:=hx.t
 have gx0:=hx.k
 unfold maxLen at hts
 clear hx
 simp only at hts gx0 |-
 cases hb:gJ (cv.mk x0 x1 x2 x3 x4 x5 x6 x7 x8 x9 x10 x11 x12)
 ·
  have RR:=hide (show S7 (cv.mk x0 x1 x2 x3 x4 x5 x6 x7 x8 x9 x10 x11 x12) ⟨k0,n0,i0,t0,Mn,hi0⟩=false by unfold S7;rw[hb];rfl)
  have HB:=hide hb
  clear hb
  go_enter Tryz.func13,Tryz.ntmps13
  have fg:=True.intro
  repeat (any_goals ((first | clear fg | go_quiet (fail));(try go_wp2_with (first | (go_at_call 44;refine (uT (cv.mk x0 x1 x2 x3 x4 x5 x6 x7 x8 x9 x10 x11 x12) S _ _ (Dat.cC.bel bl HV.out)).mono ?_;rintro e w1 ⟨rfl,hb1⟩;rw[HB.out];(have hz1:=hb1.sz;obtain⟨eA,fb,fc,fA⟩:=hb1.lay (w.heap.size);obtain⟨ff,fE,fR,fS⟩:=hb1.lay (w.heap.size+1)))))))
  all_goals
   go_returns
   exact⟨by rw[RR.out];first | done | rfl,bl⟩
 ·
  have HB:=hide hb
  cases hi:inB (cv.mk x0 x1 x2 x3 x4 x5 x6 x7 x8 x9 x10 x11 x12) ⟨k0,n0,i0,t0,Mn,hi0⟩
  ·
   have RR:=hide (show S7 (cv.mk x0 x1 x2 x3 x4 x5 x6 x7 x8 x9 x10 x11 x12) ⟨k0,n0,i0,t0,Mn,hi0⟩=false by unfold S7;rw[hb,hi];rfl)
   exact ac8
  ·
   have RR:=hide (show S7 (cv.mk x0 x1 x2 x3 x4 x5 x6 x7 x8 x9 x10 x11 x12) ⟨k0,n0,i0,t0,Mn,hi0⟩=true by unfold S7;rw[hb,hi];rfl)
   exact ac8
theorem Cu {s:cv} (h:gJ s=true):s.subject.size<=120:=by
 unfold gJ headB at h
 simp only[Bool.and_eq_true,decide_eq_true_eq]at h
 exact h.1.1.1.1.1.1.1.1.1.1.1.1.2
theorem GS (s:cv) (r:cV) (hval:gJ s=true) (hin:inB s r=true) (hk:13<=r.k/\r.k<=18):I3 34 s r:=by
 obtain⟨k,n,i,t,lo,hi⟩:=r
 replace hk:13<=k/\k<=18:=hk
 rcases (show k=13\/k=14\/k=15\/k=16\/k=17\/k=18 by omega)with rfl | rfl | rfl | rfl | rfl | rfl
 ·
  exact J8 n i t lo hi s hin
 ·
  exact J9 n i t lo hi s hin
 ·
  exact Ka n i t lo hi s hin
 ·
  exact Kb n i t lo hi s hin
 ·
  exact Kc n i t lo hi s hval hin
 ·
  exact Kd n i t lo hi s hin (Cu hval)
theorem GU (s:cv) (r:cV) (hval:gJ s=true) (hin:inB s r=true) (hk:13<=r.k/\r.k<=18):I3 30 s r:=by
 obtain⟨k,n,i,t,lo,hi⟩:=r
 replace hk:13<=k/\k<=18:=hk
 rcases (show k=13\/k=14\/k=15\/k=16\/k=17\/k=18 by omega)with rfl | rfl | rfl | rfl | rfl | rfl
 ·
  exact Ke n i t lo hi s hin
 ·
  exact Kf n i t lo hi s hin
 ·
  exact Kg n i t lo hi s hin
 ·
  exact Kh n i t lo hi s hin
 ·
  exact Ki n i t lo hi s hval hin
 ·
  exact Kj n i t lo hi s hin (Cu hval)
def WvP (w:World) (s:cv) (r v:cV) (e:Ending) (w':World):Prop :=
 ∃(us:List Value) (L:List Nat),e=.returned (.tuple #[.agg us.toArray,.int .i64 (BC s r v)])/\Dat.dB w' L (xY s r v).D us/\L.Nodup/\(∀b,b∈L->w.heap.size<=b)/\cE w w'
abbrev WvC (f:FuncId):Prop:=∀(s:cv) (r v:cV) (S:Nat->Prop) (w:World) (vs:List Value),Sp w->Se w->Dat.cC w S s.D vs->r.Ok->v.Ok->Dat.MV s.D<=1048576->Calls Tryz.prog f #[.agg vs.toArray,r.val,v.val] w (WvP w s r v)
theorem oC {w w':World} {s:cv} {r v:cV} {c:Int} (hc:BC s r v=c) (ht:xY s r v=qR) (hb:cE w w'):WvP w s r v (.returned (.tuple #[.agg #[.slice none 0 0,.slice none 0 0,.slice none 0 0,.slice none 0 0,.string ByteArray.empty,.int .i64 0,.slice none 0 0,.slice none 0 0,.slice none 0 0,.bool false,.int .i64 0,.int .i64 0,.int .i64 0],.int .i64 c])) w' :=
 ⟨_,_,by rw[hc],by rw[ht];exact JR w',by simp,fun b hb=>by simp at hb,hb⟩
theorem WL {w6 w7:World} {c:Nat} {v0 v1 v2 v3 v4 v5 v6 v7 v8 v9 v10 v11 v12 u0 u1 u2 u3 u4 u5 u6 u7 u8 u9 u10 u11 u12:Value} (h:SB w6 c v0 v1 v2 v3 v4 v5 v6 v7 v8 v9 v10 v11 v12) (hw:(((((((((((((w6.setCell ⟨c,0,none⟩ u0).setCell ⟨c,1,none⟩ u1).setCell ⟨c,2,none⟩ u2).setCell ⟨c,3,none⟩ u3).setCell ⟨c,4,none⟩ u4).setCell ⟨c,5,none⟩ u5).setCell ⟨c,6,none⟩ u6).setCell ⟨c,7,none⟩ u7).setCell ⟨c,8,none⟩ u8).setCell ⟨c,9,none⟩ u9).setCell ⟨c,10,none⟩ u10).setCell ⟨c,11,none⟩ u11).setCell ⟨c,12,none⟩ u12)=w7) :
  SB w7 c u0 u1 u2 u3 u4 u5 u6 u7 u8 u9 u10 u11 u12/\dP (fun b=>b≠c) w6 w7:=by
 subst hw
 exact⟨(((((((((((((h.Dn u0).Dq u1).zT u2).xg u3).EA u4).Ze u5).wv u6).Nd u7).Nf u8).Zf u9).Nh u10).Ni u11).Nj u12),dP.set (dP.set (dP.set (dP.set (dP.set (dP.set (dP.set (dP.set (dP.set (dP.set (dP.set (dP.set (dP.set (dP.refl (fun b=>b≠c) w6) (fun q=>q rfl) u0) (fun q=>q rfl) u1) (fun q=>q rfl) u2) (fun q=>q rfl) u3) (fun q=>q rfl) u4) (fun q=>q rfl) u5) (fun q=>q rfl) u6) (fun q=>q rfl) u7) (fun q=>q rfl) u8) (fun q=>q rfl) u9) (fun q=>q rfl) u10) (fun q=>q rfl) u11) (fun q=>q rfl) u12⟩
theorem ac9 {w:World} {b:Nat} {v0 v1 v2 v3 v4 v5 v6 v7 v8 v9 v10 v11 v12:Value} (h:SB w b v0 v1 v2 v3 v4 v5 v6 v7 v8 v9 v10 v11 v12) (j:Nat) (hj:j<13):w.cell? ⟨b,j,none⟩=[v0,v1,v2,v3,v4,v5,v6,v7,v8,v9,v10,v11,v12][j]?:=by
 obtain⟨hlb,hfb,k0,k1,k2,k3,k4,k5,k6,k7,k8,k9,k10,k11,k12⟩:=h
 match j,hj with
 | 0,_=>exact k0
 | 1,_=>exact k1
 | 2,_=>exact k2
 | 3,_=>exact k3
 | 4,_=>exact k4
 | 5,_=>exact k5
 | 6,_=>exact k6
 | 7,_=>exact k7
 | 8,_=>exact k8
 | 9,_=>exact k9
 | 10,_=>exact k10
 | 11,_=>exact k11
 | 12,_=>exact k12
 | m+13,h=>omega
theorem WO.sb {N:Nat} {w:World} {q:Nat} {vs:List Value} {L:List Nat} {x0:List ByteArray} {x1:List cA} {x2:List cz} {x3:List cw} {x4:ByteArray} {x5:Int} {x6 x7:List ByteArray} {x8:List cJ} {x9:Bool} {x10 x11 x12:Int} (h:WO N w q (.mk x0 x1 x2 x3 x4 x5 x6 x7 x8 x9 x10 x11 x12) vs L):∃E0 f0 E1 f1 E2 f2 E3 f3 E6 f6 E7 f7 E8 f8,vs=[.slice E0 x0.length f0,.slice E1 x1.length f1,.slice E2 x2.length f2,.slice E3 x3.length f3,.string x4,.int .i64 x5,.slice E6 x6.length f6,.slice E7 x7.length f7,.slice E8 x8.length f8,.bool x9,.int .i64 x10,.int .i64 x11,.int .i64 x12]/\SB w q (.slice E0 x0.length f0) (.slice E1 x1.length f1) (.slice E2 x2.length f2) (.slice E3 x3.length f3) (.string x4) (.int .i64 x5) (.slice E6 x6.length f6) (.slice E7 x7.length f7) (.slice E8 x8.length f8) (.bool x9) (.int .i64 x10) (.int .i64 x11) (.int .i64 x12):=by
 obtain⟨A0,c0,L0,A1,c1,L1,A2,c2,L2,A3,c3,L3,A6,c6,L6,A7,c7,L7,A8,c8,L8,hL,hvs,-⟩:=h.parts
 have hc:=h.cell
 rw[hvs]at hc
 exact⟨A0,c0,A1,c1,A2,c2,A3,c3,A6,c6,A7,c7,A8,c8,hvs,h.lt,h.fr,hc 0 aF,hc 1 aF,hc 2 aF,hc 3 aF,hc 4 aF,hc 5 aF,hc 6 aF,hc 7 aF,hc 8 aF,hc 9 aF,hc 10 aF,hc 11 aF,hc 12 aF⟩
theorem Zy (l:List cw):Dat.eh (l.map cw.D)=6*l.length:=by
 induction l with
 | nil=>simp[Dat.eh]
 | cons x r ih =>
  obtain⟨x0,x1,x2,x3,x4,x5⟩:=x
  rw[List.map_cons,Dat.eh,ih,cw.jS,az]
  omega
theorem Au:∀(x2:List cz) (m:Nat) (o:cz),(∀h:m<x2.length,Dat.mF o.D<=Dat.mF x2[m].D+12)->Dat.eh ((x2.set m o).map cz.D)<=Dat.eh (x2.map cz.D)+12
 | [],_,_,_=>by simp[Dat.eh]
 | x :: r,0,o,h=>by
  have h1:=h aK
  simp only[ab,List.map_cons,Dat.eh,ag]at h1 |-
  omega
 | x :: r,m+1,o,h=>by
  have h1:=Au r m o (fun hm=>h (by simpa using hm))
  simp only[ae,List.map_cons,Dat.eh]
  omega
theorem Kk (o:cz) (j:Nat) (v:cw):Dat.mF (o.Zz j v).D=Dat.mF o.D:=by
 obtain⟨k,t,s,i,y⟩:=o
 simp only[cz.Zz,cz.jS,Zy,List.length_set]
theorem Oz (o:cz) (a b:cw):Dat.mF (o.add a b).D=Dat.mF o.D+12:=by
 obtain⟨k,t,s,i,y⟩:=o
 simp only[cz.add,cz.jS,Zy,List.length_append,List.length_singleton]
 omega
theorem getD_at {x2:List cz} {m:Nat} (h:m<x2.length):x2.getD m ph=x2[m]:=by rw[List.getD_eq_getElem?_getD,List.getElem?_eq_getElem h];rfl
theorem OD (x2:List cz) (m j:Nat) (v:cw):Dat.eh ((xr x2 m j v).map cz.D)<=Dat.eh (x2.map cz.D)+12:=by
 unfold xr
 exact Au x2 m _ (fun h=>by rw[getD_at h,Kk];omega)
theorem OG (x2:List cz) (m:Nat) (a b:cw):Dat.eh ((Kl x2 m a b).map cz.D)<=Dat.eh (x2.map cz.D)+12:=by
 unfold Kl
 exact Au x2 m _ (fun h=>by rw[getD_at h,Oz];omega)
theorem OH (s:cv) (r v:cV):(mi s r v).1.mE<=s.mE+12:=by
 obtain⟨x0,x1,x2,x3,x4,x5,x6,x7,x8,x9,x10,x11,x12⟩:=s
 unfold mi
 dsimp only
 have e1:∀m j (u:cw),(cv.mk x0 x1 (xr x2 m j u) x3 x4 x5 x6 x7 x8 x9 x10 x11 x12).mE<=(cv.mk x0 x1 x2 x3 x4 x5 x6 x7 x8 x9 x10 x11 x12).mE+12:=fun m j u=>by
  have:=OD x2 m j u
  simp only[cv.mE]
  omega
 have e2:∀m (a b:cw),(cv.mk x0 x1 (Kl x2 m a b) x3 x4 x5 x6 x7 x8 x9 x10 x11 x12).mE<=(cv.mk x0 x1 x2 x3 x4 x5 x6 x7 x8 x9 x10 x11 x12).mE+12:=fun m a b=>by
  have:=OG x2 m a b
  simp only[cv.mE]
  omega
 have e3:∀j (u:cw),(cv.mk x0 x1 x2 (x3.set j u) x4 x5 x6 x7 x8 x9 x10 x11 x12).mE<=(cv.mk x0 x1 x2 x3 x4 x5 x6 x7 x8 x9 x10 x11 x12).mE+12:=fun j u=>by
  simp only[cv.mE,Zy,List.length_set]
  omega
 have e4:∀t p,(cv.mk x0 x1 x2 x3 t p x6 x7 x8 x9 x10 x11 x12).mE<=(cv.mk x0 x1 x2 x3 x4 x5 x6 x7 x8 x9 x10 x11 x12).mE+12:=fun t p=>by
  simp only[cv.mE]
  omega
 split
 ·
  exact e1 _ _ _
 split
 ·
  exact e3 _ _
 split
 ·
  split
  ·
   exact Nat.le_add_right _ _
  ·
   exact e1 _ _ _
 split
 ·
  split
  ·
   exact e1 _ _ _
  split
  ·
   exact Nat.le_add_right _ _
  ·
   exact e2 _ _ _
 split
 ·
  split
  ·
   exact e4 _ _
  ·
   exact Nat.le_add_right _ _
 split
 ·
  split
  ·
   exact e4 _ _
  ·
   exact Nat.le_add_right _ _
 ·
  exact Nat.le_add_right _ _
theorem OK (s:cv) (r v:cV):(xY s r v).mE<=s.mE+100:=by
 unfold xY
 split
 ·
  have:=OH s r v
  omega
 ·
  have:qR.mE<=100:=by decide
  omega
def PtrTo (v:Value) (g:Nat):Prop:=v=.pointer (some ⟨g,0,none⟩)
theorem PtrTo.inj {v:Value} {a b:Nat} (h:PtrTo v a) (k:PtrTo v b):a=b:=by
 unfold PtrTo at h k
 rw[h]at k
 simpa using k
def OL (w:World) (v:Value) (t:cv):Prop:=∃vs:List Value,v=.agg vs.toArray/\Dat.cC w (fun _=>True) t.D vs
theorem OL.on {w w':World} {v:Value} {t:cv} (h:OL w v t) (k:cE w w'):OL w' v t:=by
 obtain⟨vs,e,h⟩:=h
 exact⟨vs,e,h.bel k⟩
def Km (N:Nat) (w:World) (v:Value) (t:cv) (rv:Value) (ok:Bool) (F:Nat->Prop):Prop:=∃(us:List Value) (L:List Nat),v=.tuple #[.agg us.toArray,rv,.bool ok]/\Dat.dB w L t.D us/\L.Nodup/\∀b,b∈L->N<=b/\¬F b
theorem Km.on {N:Nat} {w w':World} {v:Value} {t:cv} {rv:Value} {ok:Bool} {F F':Nat->Prop} (h:Km N w v t rv ok F) (k:cE w w') (hF:∀b,F' b->F b\/w.heap.size<=b):Km N w' v t rv ok F':=by
 exact WM
theorem Km.off {N:Nat} {w w':World} {v:Value} {t:cv} {rv:Value} {ok:Bool} {F:Nat->Prop} {S:Nat->Prop} (h:Km N w v t rv ok F) (k:dP S w w') (hF:∀b,¬F b->S b):Km N w' v t rv ok F:=by
 exact WN
def DJ (N:Nat) (w:World) (v:Value):Prop:=∃g,PtrTo v g/\N<=g/\SB w g (.slice none 0 0) (.slice none 0 0) (.slice none 0 0) (.slice none 0 0) (.string ByteArray.empty) (.int .i64 0) (.slice none 0 0) (.slice none 0 0) (.slice none 0 0) (.bool false) (.int .i64 0) (.int .i64 0) (.int .i64 0)
theorem DJ.on {N:Nat} {w w':World} {v:Value} (h:DJ N w v) (k:cE w w'):DJ N w' v:=by
 obtain⟨g,e,hn,hs⟩:=h
 exact⟨g,e,hn,hs.on k⟩
def xt (N:Nat) (w:World) (v x:Value):Prop:=∃(g:Nat) (us:List Value),PtrTo v g/\N<=g/\x=.agg us.toArray/\g<w.heap.size/\(∀o,w.frozen? ⟨g,o,none⟩=false)/\w.rangeAt g 0 us
theorem xt.block {N:Nat} {w w':World} {v x:Value} (h:xt N w v x) (hs:w.heap.size<=w'.heap.size) (hb:∀g,PtrTo v g->g<w.heap.size->w'.heap[g]?=w.heap[g]?):xt N w' v x:=by
 obtain⟨g,us,e,hn,hx,hl,hf,hr⟩:=h
 have hg:=hb g e hl
 exact⟨g,us,e,hn,hx,by omega,fun o=>(World.frozen?_of_block hg).trans (hf o),fun j u hj=>(World.cell?_of_block (w:=w) (a:=⟨g,0+j,none⟩) hg).trans (hr j u hj)⟩
theorem xt.on {N:Nat} {w w':World} {v x:Value} (h:xt N w v x) (k:cE w w'):xt N w' v x:=h.block k.size fun g _ hl=>Below.block k g hl
def GV (N:Nat) (w:World) (v:Value):Prop:=∃g,PtrTo v g/\N<=g/\Z6 w g
theorem GV.block {N:Nat} {w w':World} {v:Value} (h:GV N w v) (hs:w.heap.size<=w'.heap.size) (hb:∀g,PtrTo v g->g<w.heap.size->w'.heap[g]?=w.heap[g]?):GV N w' v:=by
 obtain⟨g,e,hn,hz⟩:=h
 exact⟨g,e,hn,hz.block hs (hb g e hz.2.2.2.2.2.2.2)⟩
theorem GV.on {N:Nat} {w w':World} {v:Value} (h:GV N w v) (k:cE w w'):GV N w' v:=h.block k.size fun g _ hl=>Below.block k g hl
def S9 (N:Nat) (w:World) (v:Value) (r:cV):Prop:=∃g,PtrTo v g/\N<=g/\MS w g r.k r.n r.i r.t r.lo r.hi
theorem S9.on {N:Nat} {w w':World} {v:Value} {r:cV} (h:S9 N w v r) (k:cE w w'):S9 N w' v r:=by
 obtain⟨g,e,hn,hz⟩:=h
 exact⟨g,e,hn,hz.on k⟩
theorem oD {w:World} {b:Nat} (vs:List Value):dP (fun x=>x≠b) w (w.setCells b 0 vs):=by
 have hB:∀(vs:List Value) (o:Nat) (w:World),cE w w->(w.setCells b o vs).heap.size=w.heap.size/\(w.setCells b o vs).os=w.os/\(w.setCells b o vs).tape=w.tape/\(w.setCells b o vs).output=w.output:=by
  intro vs
  induction vs with
  | nil=>intro o w _;exact⟨rfl,rfl,rfl,rfl⟩
  | cons v r ih =>
   intro o w _
   have h1:MR b w (w.setCell ⟨b,o,none⟩ v):=MR.set ⟨rfl,rfl,rfl,rfl,fun _ _=>rfl⟩ o v
   obtain⟨a1,a2,a3,a4⟩:=ih (o+1) (w.setCell ⟨b,o,none⟩ v) (cE.refl _)
   exact⟨a1.trans h1.size,a2.trans h1.os,a3.trans h1.tape,a4.trans h1.output⟩
 obtain⟨a1,a2,a3,a4⟩:=hB vs 0 w (cE.refl _)
 exact⟨a2,a3,a4,Nat.le_of_eq a1.symm,fun x hx _=>sW (fun q=>hx q.symm) vs 0 w⟩
theorem DJ.fill {N:Nat} {w:World} {v:Value} {us:List Value} {g:Nat} (e:PtrTo v g) (hn:N<=g) (hz:SB w g (.slice none 0 0) (.slice none 0 0) (.slice none 0 0) (.slice none 0 0) (.string ByteArray.empty) (.int .i64 0) (.slice none 0 0) (.slice none 0 0) (.slice none 0 0) (.bool false) (.int .i64 0) (.int .i64 0) (.int .i64 0)) (hl:us.length=13):xt N (w.setCells g 0 us) v (.agg us.toArray):=by
 have ht:=hz.there
 rw[<-hl]at ht
 refine⟨g,us,e,hn,rfl,?_,fun o=>?_,World.rangeAt_setCells_same w g 0 us ht⟩
 ·
  have:=(oD (w:=w) (b:=g) us).size
  have:=hz.1
  omega
 ·
  exact (World.frozen?_setCells g us 0 w _).trans (hz.2.1 o)
theorem Z6.there {w:World} {b:Nat} (h:Z6 w b):w.there b 0 6:=by
 obtain⟨c0,c1,c2,c3,c4,c5,f,l⟩:=h
 intro j hj
 rcases (show j=0\/j=1\/j=2\/j=3\/j=4\/j=5 by omega)with rfl | rfl | rfl | rfl | rfl | rfl
 ·
  exact⟨by rw[show 0+0=0 from rfl,c0];rfl,f _⟩
 ·
  exact⟨by rw[show 0+1=1 from rfl,c1];rfl,f _⟩
 ·
  exact⟨by rw[show 0+2=2 from rfl,c2];rfl,f _⟩
 ·
  exact⟨by rw[show 0+3=3 from rfl,c3];rfl,f _⟩
 ·
  exact⟨by rw[show 0+4=4 from rfl,c4];rfl,f _⟩
 ·
  exact⟨by rw[show 0+5=5 from rfl,c5];rfl,f _⟩
theorem GV.fill {N:Nat} {w:World} {v:Value} {r:cV} {g:Nat} (e:PtrTo v g) (hn:N<=g) (hz:Z6 w g):S9 N (w.setCells g 0 [.int .i64 r.k,.int .i64 r.n,.int .i64 r.i,.string r.t,.int .i64 r.lo,.int .i64 r.hi]) v r:=by
 have ht:=hz.there
 have hr:=World.rangeAt_setCells_same w g 0 [.int .i64 r.k,.int .i64 r.n,.int .i64 r.i,.string r.t,.int .i64 r.lo,.int .i64 r.hi] ht
 have hs:=(oD (w:=w) (b:=g) [.int .i64 r.k,.int .i64 r.n,.int .i64 r.i,.string r.t,.int .i64 r.lo,.int .i64 r.hi]).size
 have hl:=hz.2.2.2.2.2.2.2
 exact⟨g,e,hn,by omega,hr 0 _ rfl,hr 1 _ rfl,hr 2 _ rfl,hr 3 _ rfl,hr 4 _ rfl,hr 5 _ rfl⟩
theorem xt.sb {N:Nat} {w:World} {v:Value} {v0 v1 v2 v3 v4 v5 v6 v7 v8 v9 v10 v11 v12:Value} {g:Nat} (h:xt N w v (.agg #[v0,v1,v2,v3,v4,v5,v6,v7,v8,v9,v10,v11,v12])) (e:PtrTo v g):SB w g v0 v1 v2 v3 v4 v5 v6 v7 v8 v9 v10 v11 v12:=by
 obtain⟨g',us,e',-,hx,hl,hf,hr⟩:=h
 obtain rfl:=e.inj e'
 obtain rfl:us=[v0,v1,v2,v3,v4,v5,v6,v7,v8,v9,v10,v11,v12]:=by
  injection hx with hx
  have:=congrArg Array.toList hx
  simpa using this.symm
 exact⟨hl,hf,hr 0 _ rfl,hr 1 _ rfl,hr 2 _ rfl,hr 3 _ rfl,hr 4 _ rfl,hr 5 _ rfl,hr 6 _ rfl,hr 7 _ rfl,hr 8 _ rfl,hr 9 _ rfl,hr 10 _ rfl,hr 11 _ rfl,hr 12 _ rfl⟩
end Go.Proofs.YtjngkknbpfgdcaaGreatDoor
