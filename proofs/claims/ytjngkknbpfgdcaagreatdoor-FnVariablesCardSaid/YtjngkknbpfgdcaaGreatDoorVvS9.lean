import Derived.Test.YtjngkknbpfgdcaaGreatDoorVvS7h
set_option linter.unusedVariables false
set_option linter.unusedSimpArgs false
set_option maxRecDepth 100000
set_option maxHeartbeats 8000000
namespace Go.Proofs.YtjngkknbpfgdcaaGreatDoor
open Go.RowKit Go.Proofs.Tryz Go.Maps
--%quiet
theorem RB {s:O} {r f:Int}:tP s (.mk r f)=(decide (0<=r/\r<(s.names.length:Int))&&hasB s f 1):=by
 unfold tP hasB
 simp only[cV.FY,cV.frame]
 by_cases h0:0<=f
 ·
  by_cases hl:f<(s.objects.length:Int)
  ·
   simp[h0,hl]
   first | rfl | (congr 1;by_cases a:0<=r <;> by_cases b:r<(s.names.length:Int) <;> simp[a,b])
  ·
   have hn:s.objects[f.toNat]?=none:=List.getElem?_eq_none aF
   simp[hl,hn]
 ·
  simp[h0]
theorem xP {H:Type} {P:Program} {e:TypeId} (he:P.underlying e=some .bool) {v:Value} {z:DataW H × List MemPlace} (h:plainElem P e v=some z):∃x,v=.bool x/\z=(.lit (.bool x),[]):=by
 unfold plainElem at h
 rw[he]at h
 cases v <;> simp at h
 exact⟨_,rfl,h.symm⟩
theorem World.ownsMap.H6 {H:Type} {P:Program} {k:TypeId} {w:World} {b n:Nat} {D:DataW H} {t e:TypeId} (h:w.ownsMap P k (plainElem P e) b n D) (K:Keyed P k) (ht:P.underlying t=some (.map k e)) (he:P.underlying e=some .bool) (hz:(zeroValue e).run P w=.ok (.bool false) w)
  {key:Value} {kl:Lit} (hkey:keyOf P k key=some kl):∃c,(Instr.lookup t (.map (some b)) key false).run P w=.ok (.bool c) w/\D.atKey kl (.lit (.bool false))=.lit (.bool c):=by
 obtain⟨v,ps,sH,hv⟩:=Go.World.ownsMap.lookup h K ht hz (plainElem_bool he false) hkey
 obtain⟨c,rfl,hc⟩:=xP he hv
 simp only[Prod.mk.injEq]at hc
 exact⟨c,sH,hc.1⟩
theorem nz {H:Type} {P:Program} (w:World) {ops:Array Oper} {rest:List Oper} {o:Oper} {a:Act} {Q:Exit->Act->World->Prop}
  (hg:o.guard=none) (m x:Operand) (t:TypeId) (hop:o.op=Op.lookup t m x false)
  (k e:TypeId) (K:Keyed P k) (ht:P.underlying t=some (.map k e)) (he:P.underlying e=some .bool) (hz:(zeroValue e).run P w=.ok (.bool false) w) (b n:Nat) (D:DataW H)
  (hm:a.eval m=.map (some b)) (lu:w.ownsMap P k (plainElem P e) b n D) (key:Value) (kl:Lit) (hx:a.eval x=key) (hkey:keyOf P k key=some kl)
  (hK:∀c:Bool,D.atKey kl (.lit (.bool false))=.lit (.bool c)->wpList P ops Q rest (a.put o.dst (.bool c)) w) :
  wpList P ops Q (o :: rest) a w:=by
 refine wpList_plain hg fun K' hK'=>?_
 obtain⟨c,sH,PX⟩:=World.ownsMap.H6 lu K ht he hz hkey
 unfold Oper.wp
 simp[execOp,hop,hm,hx,sH,Result.andThen]
 exact hK' _ _ (hK c PX)
theorem oK {H:Type} {P:Program} {k:TypeId} {cp:Value->Option (DataW H × List MemPlace)} {w w':World} {b n:Nat} {D:DataW H} (h:w.ownsMap P k cp b n D) (hb:U w w'):w'.ownsMap P k cp b n D:=by
 have jP:=h.lt
 obtain⟨es,clock,yq,cm,hs,hD⟩:=h
 exact⟨es,clock,(Below.block hb b jP).trans yq,cm,hs,hD⟩
theorem FZ:Keyed prog 3:=int_keyed underlying3
theorem H7 (w:World):(zeroValue 4).run prog w=.ok (.bool false) w:=by kernel_rfl
def Seen (l:List cr) (m:Nat) (D:DataW Unit):Prop:=IsMap D/\∀n:Int,dT n->D.atKey (.int .i64 n) (.lit (.bool false))=.lit (.bool ((l.take m).any fun o=>decide (o.fC=n)&&decide (n≠0)))
theorem Seen.zero (l:List cr):Seen l 0 (.map []):=⟨isMap_empty,fun n _=>by simp[DataW.atKey]⟩
theorem Seen.skip {l:List cr} {m:Nat} {D:DataW Unit} (h:Seen l m D) (hm:m<l.length) (h0:l[m].fC=0):Seen l (m+1) D:=by
 refine⟨h.1,fun n hn=>?_⟩
 rw[h.2 n hn,List.take_succ_eq_append_getElem hm,List.any_append]
 have:((([l[m]]:List cr)).any fun o=>decide (o.fC=n)&&decide (n≠0))=false:=by
  simp only[List.any_cons,List.any_nil,Bool.or_false,h0]
  by_cases e:n=0
  ·
   simp[e]
  ·
   rw[ax (fun q=>e q.symm)];rfl
 rw[this,Bool.or_false]
theorem Ee {n:Int} (h:dT n):(Lit.int .i64 n).wf=true:=WalkArith.wf_i64 (by unfold dT at h;omega)
theorem abI {n:Int} (h:dT n):WideAt.IsKeyLit (.int .i64 n):=by
 have:=Maps.keyOf_int_mk (P:=prog) underlying3 (Ee h)
 first | exact WideAt.Wi _ _ | exact trivial | (unfold WideAt.IsKeyLit;trivial) | simp[WideAt.IsKeyLit]
theorem Seen.put {l:List cr} {m:Nat} {D:DataW Unit} (h:Seen l m D) (hm:m<l.length) (h0:l[m].fC≠0) (hi:dT l[m].fC):Seen l (m+1) (D.put (.int .i64 l[m].fC) (.lit (.bool true))):=by
 refine⟨h.1.put _ _,fun n hn=>?_⟩
 rw[List.take_succ_eq_append_getElem hm,List.any_append]
 by_cases e:n=l[m].fC
 ·
  subst e
  rw[atKey_put_same h.1 (abI hi)]
  simp[h0]
 ·
  rw[atKey_put_other (fun q=>e (by injection q)),h.2 n hn]
  have:((([l[m]]:List cr)).any fun o=>decide (o.fC=n)&&decide (n≠0))=false:=by
   simp only[List.any_cons,List.any_nil,Bool.or_false]
   rw[ax (fun q=>e q.symm)];rfl
  rw[this,Bool.or_false]
theorem RC {l:List cr} {m:Nat} {n:Int} (hn:n≠0):((l.take m).any fun o=>decide (o.fC=n)&&decide (n≠0))=true↔∃k,∃(h:k<l.length),k<m/\l[k].fC=n:=by
 rw[List.any_eq_true]
 constructor
 ·
  rintro⟨o,ho,he⟩
  obtain⟨k,hk,rfl⟩:=List.mem_iff_getElem.1 ho
  rw[List.getElem_take]at he
  simp only[Bool.and_eq_true,decide_eq_true_eq]at he
  exact⟨k,by simp at hk;omega,by simp at hk;omega,he.1⟩
 ·
  rintro⟨k,h1,h2,h3⟩
  exact⟨l[k],List.mem_iff_getElem.2 ⟨k,by simp;omega,by simp⟩,by simp[h3,hn]⟩
theorem so (l:List cw) (S:Nat->Prop) (w:World) (A:Option Addr) (c:Nat) (hR:Row w S 3 A c (l.map cw.D)) (ht:Sp w) :
  Calls prog 38 #[.slice A l.length c] w fun e w'=>e=.returned (.bool (l.all mZ&&decide (l.length<=8)))/\U w w':=by
 have HR:=I hR
 have HT:=I ht
 have hlen:=hR.1
 have gX:=hR.2.1
 simp only[ar]at hlen
 unfold maxLen at gX
 clear hR ht
 go_enter func38,ntmps38
 go_wp2_with (fail)
 repeat (any_goals (go_quiet (fail);(try go_wp2_with (fail))))
 go_loopw [7] (fun v wr=>∃m:Nat,v=.int .i64 m/\m<=l.length/\Hid (∀j (hj:j<l.length),j<m->mZ l[j]=true)/\U w wr) (fun v _=>l.length - (intOf v).toNat)
 case atStart=>exact⟨0,rfl,by omega,fun j _ hj=>by omega,bl⟩
 case round =>
  obtain⟨m,rfl,m1,hm,dX⟩:=hrel
  by_cases h1:m<l.length
  ·
   have hd:decide ((m:Int)<(l.length:Int))=true:=aV
   (obtain⟨b1,o1,cz,cD,cE,Md,GV,gb,dS,gy,gF,kP,eN,mx,eO,fD,fE,fG⟩:=cw.el HR.out m h1 dX;subst gb)
   have iH:¬b1=wr.heap.size:=aF
   have F0:=I (show mZ l[m]=(gJ cz&&cD.all gJ&&decide (cD.length<=6) && !qk cD&&decide (0<=cE)) by rw[gF.out];rfl)
   have hf:=mx.out.1
   have hfm:=mx.out.2.1
   simp only[ar]at hf
   unfold maxLen at hfm eN
   cases hn:gJ cz
   case false =>
    have xU:=I (show mZ l[m]=false by rw[F0.out];simp[hn])
    have Wj:=I hn
    clear hn
    exact RD
   case true =>
   have Wj:=I hn
   clear hn
   by_cases hlen:cD.length<=6
   case neg =>
    have xU:=I (show mZ l[m]=false by rw[F0.out];simp[hlen])
    have RE:decide ((6:Int)<(cD.length:Int))=true:=aH
    have dl:decide ((cD.length:Int)<=6)=false:=aH
    exact RD
   case pos =>
   have RE:decide ((6:Int)<(cD.length:Int))=false:=aH
   have dl:decide ((cD.length:Int)<=6)=true:=aH
   cases ha:cD.all gJ
   case false =>
    have xU:=I (show mZ l[m]=false by rw[F0.out];simp[ha])
    have Wk:=I ha
    clear ha
    exact RD
   case true =>
   have Wk:=I ha
   clear ha
   cases ht:qk cD
   case true =>
    have xU:=I (show mZ l[m]=false by rw[F0.out];simp[ht])
    have Wl:=I ht
    clear ht
    exact RD
   case false =>
   have Wl:=I ht
   clear ht
   by_cases hl:0<=cE
   case neg =>
    have xU:=I (show mZ l[m]=false by rw[F0.out];simp[hl])
    have dhl:decide (cE<0)=true:=aH
    exact RD
   case pos =>
   have dhl:decide (cE<0)=false:=aH
   have xU:=I (show mZ l[m]=true by rw[F0.out,Wj.out,Wk.out,Wl.out,ay hlen,ay hl];first | done | rfl)
   have eF:=True.intro
   repeat (any_goals ((first | clear eF | go_quiet (fail));(try go_wp2_with (first | (go_at_call 94;refine (nA cz _ (HT.out.on bl)).mono ?_;rintro e wa ⟨rfl,nL⟩;(try rw[Wj.out]);(have hza:=nL.sz;obtain⟨RF,RH,RI,RJ⟩:=nL.lay (wr.heap.size);obtain⟨RM,RN,RO,RP⟩:=nL.lay (b1))) | (go_at_call 37;refine (nB cD S _ _ _ (Row.de bl mx.out) (HT.out.on bl)).mono ?_;rintro e wb ⟨rfl,xT⟩;(try rw[Wk.out]);(have hzb:=xT.sz;obtain⟨RQ,RS,RT,RU⟩:=xT.lay (wr.heap.size);obtain⟨RV,RW,RX,RY⟩:=xT.lay (b1))) | (go_at_call 95;refine (yB cD S _ _ _ (Row.de bl mx.out)).mono ?_;rintro e wc ⟨rfl,yf⟩;(try rw[Wl.out]);(have hzc:=yf.sz;obtain⟨RZ,Sa,Sb,Sc⟩:=yf.lay (wr.heap.size);obtain⟨Sd,Se,Sf,Sg⟩:=yf.lay (b1)))))))
   go_roundw
   case rel=>exact⟨m+1,by go_num,by omega,fun j hj uy=>by
    by_cases e:j=m
    ·
     subst e;exact xU.out
    ·
     exact hm.out j hj aF,bl⟩
   case measure=>simp[intOf];omega
  ·
   have hd:decide ((m:Int)<(l.length:Int))=false:=aV
   have HE:=I (show decide ((l.length:Int)<=8)=(l.all mZ&&decide (l.length<=8)) by rw[yC (f:=mZ) (l:=l) fun k hk=>hm.out k hk aF,Bool.true_and];rw[Bool.eq_iff_iff];simp;omega)
   go_wp2_with (fail)
   repeat (any_goals (go_quiet (fail);(try go_wp2_with (fail))))
   all_goals
    go_returns
    exact⟨gA HE.out,bl⟩
theorem jn (s:O) (S:Nat->Prop) (w:World) (vs:List Value) (j6:Sp w) (hv:Y.cA w S s.D vs):Calls prog 10 #[.agg vs.toArray] w fun e w'=>e=.returned (.bool (eP s))/\U w w':=by
 revert hv
 intro hv
 obtain⟨x0,x1,x2,x3,x4,x5,x6,x7,x8,x9,F,G,Z⟩:=s
 have HV:=I hv
 obtain⟨A0,c0,A1,c1,A2,c2,A3,c3,A6,c6,A7,c7,A8,c8,rfl,g0,g1,g2,g3,g4,g5,g6,g7,g8,-,g10,g11,g12⟩:=O.gK hv
 have xU:=I g0
 have fj:=g0.1
 have fm:=g0.2.1
 simp only[ar]at fj
 unfold maxLen at fm
 have qv:=I g1
 have fa:=g1.1
 have fb:=g1.2.1
 simp only[ar]at fa
 unfold maxLen at fb
 have kp:=I g2
 have ew:=g2.1
 have eL:=g2.2.1
 simp only[ar]at ew
 unfold maxLen at eL
 have Gm:=I g3
 have eK:=g3.1
 have eV:=g3.2.1
 simp only[ar]at eK
 unfold maxLen at eV
 have GW:=I g6
 have eX:=g6.1
 have eY:=g6.2.1
 simp only[ar]at eX
 unfold maxLen at eY
 have Vp:=I g7
 have fp:=g7.1
 have fq:=g7.2.1
 simp only[ar]at fp
 unfold maxLen at fq
 have OW:=I g8
 have fc:=g8.1
 have ff:=g8.2.1
 simp only[ar]at fc
 unfold maxLen at ff
 unfold maxLen at g4
 clear hv g0 g1 g2 g3 g6 g7 g8
 have FK:=I (show cv (w.alloc (.cells #[.slice A0 x0.length c0,.slice A1 x1.length c1,.slice A2 x2.length c2,.slice A3 x3.length c3,.string x4,.int .i64 x5,.slice A6 x6.length c6,.slice A7 x7.length c7,.slice A8 x8.length c8,.bool x9,.int .i64 F,.int .i64 G,.int .i64 Z] 30)) S w.heap.size (O.mk x0 x1 x2 x3 x4 x5 x6 x7 x8 x9 F G Z)from cv.zF HV.out rfl)
 have HT:=I j6
 clear j6
 by_cases rQ:x0.length<=12
 case neg =>
  have RR:=I (gB (s:=(O.mk x0 x1 x2 x3 x4 x5 x6 x7 x8 x9 F G Z)) (by rw[iy,ax rQ];simp))
  have d0:decide ((12:Int)<(x0.length:Int))=true:=aH
  go_enter func10,ntmps10
  exact lj
 case pos =>
 have d0:decide ((12:Int)<(x0.length:Int))=false:=aH
 by_cases vx:x0.all gJ=true
 case neg =>
  have RR:=I (gB (s:=(O.mk x0 x1 x2 x3 x4 x5 x6 x7 x8 x9 F G Z)) (by rw[iy,Bool.eq_false_iff.2 vx];simp))
  have HN:=I (Bool.eq_false_iff.2 vx)
  have HH1:=I vx
  clear vx
  go_enter func10,ntmps10
  have eF:=True.intro
  repeat (any_goals ((first | clear eF | go_quiet (fail));(try go_wp2_with (first | (go_at_call 37;refine (nB x0 S _ _ _ (Row.de bl xU.out) (HT.out.on bl)).mono ?_;rintro e w8 ⟨rfl,zA⟩;rw[HN.out];(have hz8:=zA.sz;obtain⟨K8,K9,Lc,Ld⟩:=zA.lay (w.heap.size)))))))
  all_goals
   go_returns
   exact⟨gA RR.out.symm,bl⟩
 case pos =>
 have HN:=I (vx)
 have HH1:=I vx
 clear vx
 by_cases BI:(x1.all mZ&&decide (x1.length<=8))=true
 case neg =>
  have RR:=I (Sh (s:=(O.mk x0 x1 x2 x3 x4 x5 x6 x7 x8 x9 F G Z)) BI)
  have HRE:=I (Bool.eq_false_iff.2 BI)
  have HH2:=I BI
  clear BI
  exact Oc
 case pos =>
 have HRE:=I (BI)
 have HH2:=I BI
 clear BI
 by_cases GM:x3.length<=12
 case neg =>
  have RR:=I (gB (s:=(O.mk x0 x1 x2 x3 x4 x5 x6 x7 x8 x9 F G Z)) (by rw[iy,ax GM];simp))
  have d3:decide ((12:Int)<(x3.length:Int))=true:=aH
  exact Oc
 case pos =>
 have d3:decide ((12:Int)<(x3.length:Int))=false:=aH
 by_cases hc4:x4.size<=120
 case neg =>
  have RR:=I (gB (s:=(O.mk x0 x1 x2 x3 x4 x5 x6 x7 x8 x9 F G Z)) (by rw[iy,ax hc4];simp))
  have d4:decide ((120:Int)<(x4.size:Int))=true:=aH
  exact Oc
 case pos =>
 have d4:decide ((120:Int)<(x4.size:Int))=false:=aH
 have hp:1<=x5/\x5<=(x4.size:Int)+1\/¬(1<=x5/\x5<=(x4.size:Int)+1):=Classical.em _
 by_cases hc5:1<=x5
 case neg =>
  have RR:=I (gB (s:=(O.mk x0 x1 x2 x3 x4 x5 x6 x7 x8 x9 F G Z)) (by rw[iy,ax (show ¬(1<=x5/\x5<=(x4.size:Int)+1) by omega)];simp))
  have d5:decide (x5<1)=true:=aH
  exact Oc
 case pos =>
 have d5:decide (x5<1)=false:=aH
 by_cases hc6:x5<=(x4.size:Int)+1
 case neg =>
  have RR:=I (gB (s:=(O.mk x0 x1 x2 x3 x4 x5 x6 x7 x8 x9 F G Z)) (by rw[iy,ax (show ¬(1<=x5/\x5<=(x4.size:Int)+1) by omega)];simp))
  have d6:decide ((x4.size:Int)+1<x5)=true:=aH
  exact Oc
 case pos =>
 have d6:decide ((x4.size:Int)+1<x5)=false:=aH
 by_cases hc7:x8.length<=40
 case neg =>
  have RR:=I (gB (s:=(O.mk x0 x1 x2 x3 x4 x5 x6 x7 x8 x9 F G Z)) (by rw[iy,ax hc7];simp))
  have d7:decide ((40:Int)<(x8.length:Int))=true:=aH
  exact Oc
 case pos =>
 have d7:decide ((40:Int)<(x8.length:Int))=false:=aH
 clear hp
 go_enter func10,ntmps10
 have eF:=True.intro
 repeat (any_goals ((first | clear eF | go_quiet (fail));(try go_wp2_with (first | (go_at_call 37;refine (nB x0 S _ _ _ (Row.de bl xU.out) (HT.out.on bl)).mono ?_;rintro e w8 ⟨rfl,zA⟩;rw[HN.out];(have hz8:=zA.sz;obtain⟨K8,K9,Lc,Ld⟩:=zA.lay (w.heap.size))) | (go_at_call 38;refine (so x1 S _ _ _ (Row.de bl qv.out) (HT.out.on bl)).mono ?_;rintro e w9 ⟨rfl,qz⟩;rw[HRE.out];(have tu:=qz.sz;obtain⟨ag8,ag9,aha,ahb⟩:=qz.lay (w.heap.size)))))))
 have ame:=OW
 go_loopw [61] (fun v wq=>∃m:Nat,v=.int .i64 m/\m<=x8.length/\Hid (∀j (hj:j<x8.length),j<m->tP (O.mk x0 x1 x2 x3 x4 x5 x6 x7 x8 x9 F G Z) x8[j]=true)/\U w wq/\Hid (cv wq S w.heap.size (O.mk x0 x1 x2 x3 x4 x5 x6 x7 x8 x9 F G Z))) (fun v _=>x8.length - (intOf v).toNat)
 case atStart=>exact⟨0,rfl,by omega,fun j _ hj=>by omega,bl,I (cv.de bl FK.out)⟩
 case round =>
  obtain⟨m,rfl,m1,hm,dX,sx⟩:=hrel
  have Uu:=sx.out.1
  obtain⟨A0,c0,A1,c1,A2,c2,A3,c3,A6,c6,A7,c7,A8,c8,J4,e0,e1,e2,e3,e4,e5,e6,e7,e8,e9,iE,jc,jd,y0,y1,y2,y3,y4,y5,y6,y7,y8,te,sV,vr⟩:=cv.cells sx.out
  have GW:=I y6
  have eX:=y6.1
  have eY:=y6.2.1
  simp only[ar]at eX
  unfold maxLen at eY
  clear J4 y0 y1 y2 y3 y4 y5 y6 y7 y8 te sV vr
  have jg:U wr wr:=U.refl _
  have ga:¬w.heap.size=wr.heap.size:=aF
  by_cases h1:m<x8.length
  ·
   have hd:decide ((m:Int)<(x8.length:Int))=true:=aV
   have sS:=U.size dX
   (obtain⟨b1,o1,cz,cD,gb,dS,gy,gF,kP,eN,fi,fD,fE⟩:=cV.el ame.out m h1 dX;subst gb)
   have iH:¬b1=wr.heap.size:=aF
   have HAC:=I (show tP (O.mk x0 x1 x2 x3 x4 x5 x6 x7 x8 x9 F G Z) x8[m]=(decide (0<=cz/\cz<(x0.length:Int))&&hasB (O.mk x0 x1 x2 x3 x4 x5 x6 x7 x8 x9 F G Z) cD 1) by rw[gF.out,RB];rfl)
   have Uh:=sx
   by_cases hr0:0<=cz
   case neg =>
    have dr:decide (cz<0)=true:=aH
    have RR:=I (uC (s:=(O.mk x0 x1 x2 x3 x4 x5 x6 x7 x8 x9 F G Z)) m h1 (HAC.out.trans (by rw[ax (fun q:0<=cz/\cz<(x0.length:Int)=>hr0 q.1)];rfl)))
    clear hr0
    exact lj
   case pos =>
   have dr:decide (cz<0)=false:=aH
   by_cases hr1:cz<(x0.length:Int)
   case neg =>
    have dr2:decide ((x0.length:Int)<=cz)=true:=aH
    have RR:=I (uC (s:=(O.mk x0 x1 x2 x3 x4 x5 x6 x7 x8 x9 F G Z)) m h1 (HAC.out.trans (by rw[ax (fun q:0<=cz/\cz<(x0.length:Int)=>hr1 q.2)];rfl)))
    clear hr1
    exact lj
   case pos =>
   have dr2:decide ((x0.length:Int)<=cz)=false:=aH
   have Si:=I (HAC.out.trans (by rw[ay (⟨hr0,hr1⟩:0<=cz/\cz<(x0.length:Int)),Bool.true_and]))
   clear hr0 hr1
   cases hh:hasB (O.mk x0 x1 x2 x3 x4 x5 x6 x7 x8 x9 F G Z) cD 1
   ·
    have HH:=I hh
    have RR:=I (uC (s:=(O.mk x0 x1 x2 x3 x4 x5 x6 x7 x8 x9 F G Z)) m h1 (Si.out.trans hh))
    clear hh
    have eF:=True.intro
    repeat (any_goals ((first | clear eF | go_quiet (fail));(try go_wp2_with (go_at_call 39;refine (qW (O.mk x0 x1 x2 x3 x4 x5 x6 x7 x8 x9 F G Z) _ _ S w.heap.size _ (cv.de bl Uh.out)).mono ?_;rintro e w2 ⟨rfl,gC⟩;rw[HH.out];(have xX:=gC.sz;obtain⟨vF,vG,vH,vK⟩:=gC.lay (w.heap.size);obtain⟨D6,D7,D8,Ea⟩:=gC.lay (wr.heap.size))))))
    all_goals
     go_returns
     exact⟨gA RR.out.symm,bl⟩
   ·
    have HH:=I hh
    have HNW:=I (Si.out.trans hh)
    clear hh
    have eF:=True.intro
    repeat (any_goals ((first | clear eF | go_quiet (fail));(try go_wp2_with (go_at_call 39;refine (qW (O.mk x0 x1 x2 x3 x4 x5 x6 x7 x8 x9 F G Z) _ _ S w.heap.size _ (cv.de bl Uh.out)).mono ?_;rintro e w2 ⟨rfl,gC⟩;rw[HH.out];(have xX:=gC.sz;obtain⟨vF,vG,vH,vK⟩:=gC.lay (w.heap.size);obtain⟨D6,D7,D8,Ea⟩:=gC.lay (wr.heap.size))))))
    exact Zd
  have hd:decide ((m:Int)<(x8.length:Int))=false:=aV
  have J5:=I (show ∀j (hj:j<x8.length),j<x8.length->tP (O.mk x0 x1 x2 x3 x4 x5 x6 x7 x8 x9 F G Z) x8[j]=true from fun j hj _=>hm.out j hj aF)
  clear hm
  have amf:=GW
  go_wp2_with (fail)
  repeat (any_goals (go_quiet (fail);(try go_wp2_with (fail))))
  go_loopw [86] (fun v wq=>∃m:Nat,v=.int .i64 m/\m<=x6.length/\Hid (∀j (hj:j<x6.length),j<m->x6[j].size<=120)/\U w wq/\Hid (cv wq S w.heap.size (O.mk x0 x1 x2 x3 x4 x5 x6 x7 x8 x9 F G Z))/\U wr wq) (fun v _=>x6.length - (intOf v).toNat)
  case atStart=>exact⟨0,rfl,by omega,fun j _ hj=>by omega,bl,I (cv.de bl sx.out),bl⟩
  case round =>
   obtain⟨m,rfl,m1,hm,dX,sx,tn⟩:=hrel
   have Uu:=sx.out.1
   obtain⟨A0,c0,A1,c1,A2,c2,A3,c3,A6,c6,A7,c7,A8,c8,J4,e0,e1,e2,e3,e4,e5,e6,e7,e8,e9,iE,jc,jd,y0,y1,y2,y3,y4,y5,y6,y7,y8,te,sV,vr⟩:=cv.cells sx.out
   have kp:=I y2
   have ew:=y2.1
   have eL:=y2.2.1
   simp only[ar]at ew
   unfold maxLen at eL
   have Gm:=I y3
   have eK:=y3.1
   have eV:=y3.2.1
   simp only[ar]at eK
   unfold maxLen at eV
   clear J4 y0 y1 y2 y3 y4 y5 y6 y7 y8 te sV vr
   have jg:U wr wr:=U.refl _
   have ga:¬w.heap.size=wr.heap.size:=aF
   by_cases h1:m<x6.length
   ·
    have hd:decide ((m:Int)<(x6.length:Int))=true:=aV
    obtain⟨b1,o1,gb,OZ,dS,jZ,c1x⟩:=zO amf.out m h1
    subst gb
    replace c1x:=(tn.box b1 dS _).trans c1x
    have aqT:=U.size tn
    unfold maxLen at jZ
    by_cases h2:x6[m].size<=120
    ·
     have GC:decide ((120:Int)<(x6[m].size:Int))=false:=aH
     go_wp2_with (fail)
     repeat (any_goals (go_quiet (fail);(try go_wp2_with (fail))))
     go_roundw
     case rel=>exact⟨m+1,by go_num,by omega,fun j hj uy=>by
      by_cases e:j=m
      ·
       subst e;exact h2
      ·
       exact hm.out j hj aF,bl,I (cv.de bl sx.out),bl⟩
     case measure=>simp[intOf];omega
    ·
     have GC:decide ((120:Int)<(x6[m].size:Int))=true:=aH
     have RR:=I (Lf (s:=(O.mk x0 x1 x2 x3 x4 x5 x6 x7 x8 x9 F G Z)) m h1 (by show 120<x6[m].size;omega))
     exact lj
   have hd:decide ((m:Int)<(x6.length:Int))=false:=aV
   have J6:=I (show ∀j (hj:j<x6.length),j<x6.length->x6[j].size<=120 from fun j hj _=>hm.out j hj aF)
   clear hm
   by_cases DL:0<=G
   case neg =>
    have RR:=I (gB (s:=(O.mk x0 x1 x2 x3 x4 x5 x6 x7 x8 x9 F G Z)) (by rw[iy,ax (show ¬(0<=G/\G<=4000) by omega)];simp))
    have dk0:decide (G<0)=true:=aH
    exact lj
   case pos =>
   have dk0:decide (G<0)=false:=aH
   by_cases LK:G<=4000
   case neg =>
    have RR:=I (gB (s:=(O.mk x0 x1 x2 x3 x4 x5 x6 x7 x8 x9 F G Z)) (by rw[iy,ax (show ¬(0<=G/\G<=4000) by omega)];simp))
    have dk1:decide (4000<G)=true:=aH
    exact lj
   case pos =>
   have dk1:decide (4000<G)=false:=aH
   by_cases nF:0<=F
   case neg =>
    have RR:=I (gB (s:=(O.mk x0 x1 x2 x3 x4 x5 x6 x7 x8 x9 F G Z)) (by rw[iy,ax (show ¬(0<=F/\F<=G) by omega)];simp))
    have dk2:decide (F<0)=true:=aH
    exact lj
   case pos =>
   have dk2:decide (F<0)=false:=aH
   by_cases hk3:F<=G
   case neg =>
    have RR:=I (gB (s:=(O.mk x0 x1 x2 x3 x4 x5 x6 x7 x8 x9 F G Z)) (by rw[iy,ax (show ¬(0<=F/\F<=G) by omega)];simp))
    have dk3:decide (G<F)=true:=aH
    exact lj
   case pos =>
   have dk3:decide (G<F)=false:=aH
   by_cases hk4:0<=Z
   case neg =>
    have RR:=I (gB (s:=(O.mk x0 x1 x2 x3 x4 x5 x6 x7 x8 x9 F G Z)) (by rw[iy,ax (show ¬0<=Z by omega)];simp))
    have dk4:decide (Z<0)=true:=aH
    exact lj
   case pos =>
   have dk4:decide (Z<0)=false:=aH
   have h8r:x1.length<=8:=by have:=HH2.out;rw[Bool.and_eq_true,decide_eq_true_eq]at this;exact this.2
   have HHD:=I (show sX (O.mk x0 x1 x2 x3 x4 x5 x6 x7 x8 x9 F G Z)=true by rw[iy,HH1.out];simp only[Bool.and_eq_true,decide_eq_true_eq];(repeat' apply And.intro) <;> first | rfl | trivial | omega)
   have Uh:=sx
   cases hg:fS (O.mk x0 x1 x2 x3 x4 x5 x6 x7 x8 x9 F G Z) x3
   ·
    have HG:=I hg
    have RR:=I (Lg (s:=(O.mk x0 x1 x2 x3 x4 x5 x6 x7 x8 x9 F G Z)) hg)
    clear hg
    have eF:=True.intro
    repeat (any_goals ((first | clear eF | go_quiet (fail));(try go_wp2_with (go_at_call 40;refine (gY (O.mk x0 x1 x2 x3 x4 x5 x6 x7 x8 x9 F G Z) x3 S S w.heap.size _ _ _ (cv.de bl Uh.out) (Row.de bl Gm.out)).mono ?_;rintro e wg ⟨rfl,hbg⟩;rw[HG.out];(have hzg:=hbg.sz;obtain⟨ahf,ahg,ahh,ahi⟩:=hbg.lay (w.heap.size))))))
    all_goals
     go_returns
     exact⟨gA RR.out.symm,bl⟩
   have HG:=I hg
   clear hg
   have hmm:=@run_makeMap prog
   have eF:=True.intro
   repeat (any_goals ((first | clear eF | go_quiet (fail));(try go_wp2_with (go_at_call 40;refine (gY (O.mk x0 x1 x2 x3 x4 x5 x6 x7 x8 x9 F G Z) x3 S S w.heap.size _ _ _ (cv.de bl Uh.out) (Row.de bl Gm.out)).mono ?_;rintro e wg ⟨rfl,hbg⟩;rw[HG.out];(have hzg:=hbg.sz;obtain⟨ahf,ahg,ahh,ahi⟩:=hbg.lay (w.heap.size))))))
   clear hmm
   have HSG:=I (cv.de (show U wr wg from bl) sx.out)
   have hzg:=HSG.out.1
   have amh:U w wg:=bl
   have ami:U wr wg:=bl
   have amj:=kp
   go_loopw [129] (fun v wr3=>∃m:Nat,∃D:DataW Unit,v=.int .i64 m/\m<=x2.length/\Hid (∀j (hj:j<x2.length),j<m->cT (O.mk x0 x1 x2 x3 x4 x5 x6 x7 x8 x9 F G Z) x2[j]=true/\∀k (hk:k<j),x2[j].fC=0\/(x2[k]' aF).fC≠x2[j].fC)/\Hid (wr3.ownsMap prog 3 (plainElem prog 4) wg.heap.size m D)/\Hid (Seen x2 m D)/\U wg wr3/\wg.heap.size<wr3.heap.size) (fun v _=>x2.length - (intOf v).toNat)
   case atStart=>exact⟨0,.map [],rfl,by omega,fun j _ hj=>by omega,World.ownsMap_made _ _ _ _,Seen.zero _,bl,by simp⟩
   case round =>
    obtain⟨m,D,rfl,m1,hm,lu,Sj,abK,Ua⟩:=hrel
    have aqZ:U w wr:=U.trans amh abK
    have sx:=I (cv.de abK HSG.out)
    have ahj:=U.trans ami abK
    have aq0:=U.size ahj
    have Uu:=sx.out.1
    obtain⟨A0,c0,A1,c1,A2,c2,A3,c3,A6,c6,A7,c7,A8,c8,J4,e0,e1,e2,e3,e4,e5,e6,e7,e8,e9,iE,jc,jd,y0,y1,y2,y3,y4,y5,y6,y7,y8,te,sV,vr⟩:=cv.cells sx.out
    clear J4 y0 y1 y2 y3 y4 y5 y6 y7 y8 te sV vr
    have jg:U wr wr:=U.refl _
    have ga:¬w.heap.size=wr.heap.size:=aF
    by_cases h1:m<x2.length
    ·
     have hd:decide ((m:Int)<(x2.length:Int))=true:=aV
     (obtain⟨b1,o1,cz,cD,cE,cB,cF,l8,iz,jG,jD,gb,dS,gy,gF,kP,eN,fi,eO,ed,iF,fD,fE,fG,fK,fN⟩:=cr.el amj.out m h1 ahj;subst gb)
     have iH:¬b1=wr.heap.size:=aF
     have lI:=ed.out.1
     have om:=ed.out.2.1
     have aml:=iF.out.1
     have amm:=iF.out.2.1
     have HSX:=sx
     have HSE:=I (show x2[m].fC=cE by rw[gF.out];rfl)
     cases ho:cT (O.mk x0 x1 x2 x3 x4 x5 x6 x7 x8 x9 F G Z) x2[m]
     ·
      have HO:=I ho
      have RR:=I (Fx (s:=(O.mk x0 x1 x2 x3 x4 x5 x6 x7 x8 x9 F G Z)) m h1 ho)
      clear ho
      have eF:=True.intro
      repeat (any_goals ((first | clear eF | go_quiet (fail));(try go_wp2_with (go_at_call 41;refine (qM (O.mk x0 x1 x2 x3 x4 x5 x6 x7 x8 x9 F G Z) x2[m] S S w.heap.size _ _ (cv.de bl HSX.out) (Y.cA.de bl kP.out)).mono ?_;rintro e wo ⟨rfl,tn⟩;rw[HO.out];(have Uf:=tn.sz;obtain⟨H8,H9,Ia,Ib⟩:=tn.lay (w.heap.size);obtain⟨Ic,Ie,Ig,Ih⟩:=tn.lay (wr.heap.size);obtain⟨Sk,Sl,Sm,Sn⟩:=tn.lay (b1))))))
      all_goals
       go_returns
       exact⟨gA RR.out.symm,bl⟩
     have HO:=I ho
     clear ho
     have hwk:=Ee eO
     have HK:=I (keyOf_int_mk (P:=prog) underlying3 hwk)
     by_cases hs0:cE=0
     ·
      have fs:(cE != 0)=false:=by simp[hs0]
      have HS0:=I (HSE.out.trans hs0)
      clear hs0
      have eF:=True.intro
      repeat (any_goals ((first | clear eF | go_quiet (fail));(try go_wp2_with (go_at_call 41;refine (qM (O.mk x0 x1 x2 x3 x4 x5 x6 x7 x8 x9 F G Z) x2[m] S S w.heap.size _ _ (cv.de bl HSX.out) (Y.cA.de bl kP.out)).mono ?_;rintro e wo ⟨rfl,tn⟩;rw[HO.out];(have Uf:=tn.sz;obtain⟨H8,H9,Ia,Ib⟩:=tn.lay (w.heap.size);obtain⟨Ic,Ie,Ig,Ih⟩:=tn.lay (wr.heap.size);obtain⟨Sk,Sl,Sm,Sn⟩:=tn.lay (b1))))))
      have Uf:=tn.size
      simp only[World.size_alloc]at Uf
      go_roundw
      case rel=>exact⟨m+1,_,by go_num,by omega,fun j hj uy=>by
       by_cases e:j=m
       ·
        subst e;exact⟨HO.out,fun k hk=>Or.inl HS0.out⟩
       ·
        exact hm.out j hj aF,(oK lu.out bl).mono aF,Sj.out.skip h1 HS0.out,bl,by omega⟩
      case measure=>simp[intOf];omega
     ·
      have fs:(cE != 0)=true:=by simp[hs0]
      have HNZ:=I (show x2[m].fC≠0 by rw[HSE.out];exact hs0)
      clear hs0
      have HAT:=I (Sj.out.2 cE eO)
      have HSA:=I (RC (l:=x2) (m:=m) (n:=cE) (by rw[<-HSE.out];exact HNZ.out))
      generalize Xk:((x2.take m).any fun o=>decide (o.fC=cE)&&decide (cE≠0))=cb at HAT HSA
      clear Xk
      cases cb
      ·
       go_wp2_with (first | (go_at_call 41;refine (qM (O.mk x0 x1 x2 x3 x4 x5 x6 x7 x8 x9 F G Z) x2[m] S S w.heap.size _ _ (cv.de bl HSX.out) (Y.cA.de bl kP.out)).mono ?_;rintro e wo ⟨rfl,tn⟩;rw[HO.out];(have Uf:=tn.sz;obtain⟨H8,H9,Ia,Ib⟩:=tn.lay (w.heap.size);obtain⟨Ic,Ie,Ig,Ih⟩:=tn.lay (wr.heap.size);obtain⟨Sk,Sl,Sm,Sn⟩:=tn.lay (b1))) | ((at_lookup;refine nz _ rfl _ _ 79 rfl 3 4 FZ underlying79 underlying4 (H7 _) wg.heap.size m D rfl (oK lu.out bl) _ _ rfl HK.out ?_;intro c PX);obtain rfl:c=false:=(by have:=HAT.out.symm.trans PX;simpa using this.symm);clear PX) | (at_mapUpdate;refine wpList_mapUpdate_own _ rfl _ _ _ 79 rfl 3 4 FZ underlying79 _ wg.heap.size m D rfl (oK lu.out bl) bE _ _ _ rfl rfl HK.out _ [] (plainElem_bool underlying4 true) ?_;intro w1 sW hgrow1))
       have qz:U wg w1:=Below.grown (show U wg wo from bl) hgrow1 (by have:=tn.size;simp at this |-;omega) (fun x hx=>by cases hx;exact Nat.le_refl _)
       have Uf:=tn.size
       simp only[World.size_alloc]at Uf
       have tu:=hgrow1.size
       go_roundw
       case rel=>exact⟨m+1,_,by go_num,by omega,fun j hj uy=>by
        by_cases e:j=m
        ·
         subst e;exact⟨HO.out,fun k hk=>Or.inr (fun e=>absurd (HSA.out.2 ⟨k,by omega,hk,e.trans HSE.out⟩) aJ)⟩
        ·
         exact hm.out j hj aF,sW,(by have:=Sj.out.put h1 HNZ.out (by rw[HSE.out];exact eO);rw[HSE.out]at this;exact this),qz,by omega⟩
       case measure=>simp[intOf];omega
      ·
       obtain⟨k,LK,nF,hk3⟩:=HSA.out.1 rfl
       have RR:=I (Lh (s:=(O.mk x0 x1 x2 x3 x4 x5 x6 x7 x8 x9 F G Z)) (Sq m k (by simpa[O.gd]using h1) nF (by simp only[O.gd,List.getElem_map];exact HNZ.out) (by simp only[O.gd,List.getElem_map];rw[HSE.out];exact hk3)))
       clear LK nF hk3
       have eF:=True.intro
       repeat (any_goals ((first | clear eF | go_quiet (fail));(try go_wp2_with (first | (go_at_call 41;refine (qM (O.mk x0 x1 x2 x3 x4 x5 x6 x7 x8 x9 F G Z) x2[m] S S w.heap.size _ _ (cv.de bl HSX.out) (Y.cA.de bl kP.out)).mono ?_;rintro e wo ⟨rfl,tn⟩;rw[HO.out];(have Uf:=tn.sz;obtain⟨H8,H9,Ia,Ib⟩:=tn.lay (w.heap.size);obtain⟨Ic,Ie,Ig,Ih⟩:=tn.lay (wr.heap.size);obtain⟨Sk,Sl,Sm,Sn⟩:=tn.lay (b1))) | ((at_lookup;refine nz _ rfl _ _ 79 rfl 3 4 FZ underlying79 underlying4 (H7 _) wg.heap.size m D rfl (oK lu.out bl) _ _ rfl HK.out ?_;intro c PX);obtain rfl:c=true:=(by have:=HAT.out.symm.trans PX;simpa using this.symm);clear PX) | (at_mapUpdate;refine wpList_mapUpdate_own _ rfl _ _ _ 79 rfl 3 4 FZ underlying79 _ wg.heap.size m D rfl (oK lu.out bl) bE _ _ _ rfl rfl HK.out _ [] (plainElem_bool underlying4 true) ?_;intro w1 sW hgrow1)))))
       all_goals
        go_returns
        exact⟨gA RR.out.symm,bl⟩
    ·
     have hd:decide ((m:Int)<(x2.length:Int))=false:=aV
     have RR:=I (Li (s:=(O.mk x0 x1 x2 x3 x4 x5 x6 x7 x8 x9 F G Z)) HHD.out (fun j hj=>by have:=HH2.out;rw[Bool.and_eq_true]at this;exact List.all_eq_true.1 this.1 _ (List.getElem_mem hj)) (fun j hj=>J6.out j hj hj) (fun j hj=>J5.out j hj hj) (fun j hj=>(hm.out j hj (au hj (by show x2.length<=m;omega))).1) (Sr fun a ha b hb=>by simp only[List.getElem_map];exact (hm.out a bW (au bW aF)).2 b hb) HG.out)
     go_wp2_with (fail)
     repeat (any_goals (go_quiet (fail);(try go_wp2_with (fail))))
     all_goals
      go_returns
      exact⟨gA RR.out.symm,bl⟩
end Go.Proofs.YtjngkknbpfgdcaaGreatDoor
namespace Go.Proofs.YtjngkknbpfgdcaaGreatDoor
open Go.RowKit Go.Proofs.Tryz
--%quiet
theorem vE (s:O):amr 44 s:=by
 intro S w vs hv
 obtain⟨x0,x1,x2,x3,x4,x5,x6,x7,x8,x9,F,G,Z⟩:=s
 have HV:=I hv
 obtain⟨A0,c0,A1,c1,A2,c2,A3,c3,A6,c6,A7,c7,A8,c8,rfl,g0,g1,g2,g3,g4,g5,g6,g7,g8,-,g10,g11,g12⟩:=O.gK hv
 have xU:=I g0
 have fj:=g0.1
 have fm:=g0.2.1
 simp only[ar]at fj
 unfold maxLen at fm
 have qv:=I g1
 have fa:=g1.1
 have fb:=g1.2.1
 simp only[ar]at fa
 unfold maxLen at fb
 have kp:=I g2
 have ew:=g2.1
 have eL:=g2.2.1
 simp only[ar]at ew
 unfold maxLen at eL
 have Gm:=I g3
 have eK:=g3.1
 have eV:=g3.2.1
 simp only[ar]at eK
 unfold maxLen at eV
 have GW:=I g6
 have eX:=g6.1
 have eY:=g6.2.1
 simp only[ar]at eX
 unfold maxLen at eY
 have Vp:=I g7
 have fp:=g7.1
 have fq:=g7.2.1
 simp only[ar]at fp
 unfold maxLen at fq
 have OW:=I g8
 have fc:=g8.1
 have ff:=g8.2.1
 simp only[ar]at fc
 unfold maxLen at ff
 unfold maxLen at g4
 clear hv g0 g1 g2 g3 g6 g7 g8
 have FK:=I (show cv (w.alloc (.cells #[.slice A0 x0.length c0,.slice A1 x1.length c1,.slice A2 x2.length c2,.slice A3 x3.length c3,.string x4,.int .i64 x5,.slice A6 x6.length c6,.slice A7 x7.length c7,.slice A8 x8.length c8,.bool x9,.int .i64 F,.int .i64 G,.int .i64 Z] 30)) S w.heap.size (O.mk x0 x1 x2 x3 x4 x5 x6 x7 x8 x9 F G Z)from cv.zF HV.out rfl)
 by_cases rQ:x0.length<=12
 case neg =>
  have RR:=I (gB (s:=(O.mk x0 x1 x2 x3 x4 x5 x6 x7 x8 x9 F G Z)) (by rw[iy];rw[ax rQ];simp))
  have d0:decide ((12:Int)<(x0.length:Int))=true:=aH
  exact F1
 case pos =>
 have d0:decide ((12:Int)<(x0.length:Int))=false:=aH
 by_cases vx:x1.length<=8
 case neg =>
  have RR:=I (gB (s:=(O.mk x0 x1 x2 x3 x4 x5 x6 x7 x8 x9 F G Z)) (by rw[iy];rw[ax vx];simp))
  have d1:decide ((8:Int)<(x1.length:Int))=true:=aH
  exact F1
 case pos =>
 have d1:decide ((8:Int)<(x1.length:Int))=false:=aH
 by_cases BI:x3.length<=12
 case neg =>
  have RR:=I (gB (s:=(O.mk x0 x1 x2 x3 x4 x5 x6 x7 x8 x9 F G Z)) (by rw[iy];rw[ax BI];simp))
  have d2:decide ((12:Int)<(x3.length:Int))=true:=aH
  exact F1
 case pos =>
 have d2:decide ((12:Int)<(x3.length:Int))=false:=aH
 by_cases GM:x4.size<=120
 case neg =>
  have RR:=I (gB (s:=(O.mk x0 x1 x2 x3 x4 x5 x6 x7 x8 x9 F G Z)) (by rw[iy];rw[ax GM];simp))
  have d3:decide ((120:Int)<(x4.size:Int))=true:=aH
  exact F1
 case pos =>
 have d3:decide ((120:Int)<(x4.size:Int))=false:=aH
 by_cases hc4:1<=x5/\x5<=(x4.size:Int)+1
 case neg =>
  have RR:=I (gB (s:=(O.mk x0 x1 x2 x3 x4 x5 x6 x7 x8 x9 F G Z)) (by rw[iy];rw[ax hc4];simp))
  have d4:(decide (1<=x5)&&decide (x5<=(x4.size:Int)+1))=false:=aH
  exact F1
 case pos =>
 have d4:decide (1<=x5)=true:=aH
 have d4b:decide (x5<=(x4.size:Int)+1)=true:=aH
 by_cases hc5:x8.length<=40
 case neg =>
  have RR:=I (gB (s:=(O.mk x0 x1 x2 x3 x4 x5 x6 x7 x8 x9 F G Z)) (by rw[iy];rw[ax hc5];simp))
  have d5:decide ((40:Int)<(x8.length:Int))=true:=aH
  exact F1
 case pos =>
 have d5:decide ((40:Int)<(x8.length:Int))=false:=aH
 by_cases hc6:0<=Z
 case neg =>
  have RR:=I (gB (s:=(O.mk x0 x1 x2 x3 x4 x5 x6 x7 x8 x9 F G Z)) (by rw[iy];rw[ax hc6];simp))
  have d6:decide (Z<0)=true:=aH
  exact F1
 case pos =>
 have d6:decide (Z<0)=false:=aH
 by_cases hc7:0<=G/\G<=4000
 case neg =>
  have RR:=I (gB (s:=(O.mk x0 x1 x2 x3 x4 x5 x6 x7 x8 x9 F G Z)) (by rw[iy];rw[ax hc7];simp))
  have d7:(decide (0<=G)&&decide (G<=4000))=false:=aH
  exact F1
 case pos =>
 have d7:decide (0<=G)=true:=aH
 have d7b:decide (G<=4000)=true:=aH
 by_cases hc8:0<=F/\F<=G
 case neg =>
  have RR:=I (gB (s:=(O.mk x0 x1 x2 x3 x4 x5 x6 x7 x8 x9 F G Z)) (by rw[iy];rw[ax hc8];simp))
  have d8:(decide (0<=F)&&decide (F<=G))=false:=aH
  exact F1
 case pos =>
 have d8:decide (0<=F)=true:=aH
 have d8b:decide (F<=G)=true:=aH
 have hnl:decide ((x0.length:Int)<=12)=true:=aH
 by_cases hnm:x0.all gJ=true
 case neg =>
  have abM:=Bool.eq_false_iff.2 hnm
  have RR:=I (gB (s:=(O.mk x0 x1 x2 x3 x4 x5 x6 x7 x8 x9 F G Z)) (by rw[iy,abM];simp))
  have HN:=I (show (x0.all gJ&&decide ((x0.length:Int)<=12))=false by rw[abM];rfl)
  clear hnm abM hnl
  go_enter func44,ntmps44
  have eF:=True.intro
  repeat (any_goals ((first | clear eF | go_quiet (fail));(try go_wp2_with (first | (go_at_call 101;refine (pk _ _ _ _).mono ?_;rintro e w9 ⟨rfl,rfl⟩) | (go_at_call 102;refine (qN x0 12 S _ _ _ (Row.de bl xU.out)).mono ?_;rintro e w8 ⟨rfl,zA⟩;rw[HN.out];(have hz8:=zA.sz;obtain⟨K8,K9,Lc,Ld⟩:=zA.lay (w.heap.size)))))))
  all_goals
   go_returns
   exact⟨by rw[RR.out];first | done | rfl,bl⟩
 case pos =>
 have HN:=I (show (x0.all gJ&&decide ((x0.length:Int)<=12))=true by rw[hnm,hnl];rfl)
 have HH:=I (show sX (O.mk x0 x1 x2 x3 x4 x5 x6 x7 x8 x9 F G Z)=true by rw[iy,hnm];simp;omega)
 clear hnm hnl
 go_enter func44,ntmps44
 have eF:=True.intro
 repeat (any_goals ((first | clear eF | go_quiet (fail));(try go_wp2_with (first | (go_at_call 101;refine (pk _ _ _ _).mono ?_;rintro e w9 ⟨rfl,rfl⟩) | (go_at_call 102;refine (qN x0 12 S _ _ _ (Row.de bl xU.out)).mono ?_;rintro e w8 ⟨rfl,zA⟩;rw[HN.out];(have hz8:=zA.sz;obtain⟨K8,K9,Lc,Ld⟩:=zA.lay (w.heap.size)))))))
 go_loopw [3] (fun v wr=>∃m:Nat,v=.int .i64 m/\m<=x1.length/\Hid (∀j (hj:j<x1.length),j<m->mZ x1[j]=true)/\U w wr/\Hid (cv wr S w.heap.size (O.mk x0 x1 x2 x3 x4 x5 x6 x7 x8 x9 F G Z))) (fun v _=>x1.length - (intOf v).toNat)
 case atStart=>exact⟨0,rfl,by omega,fun j _ hj=>by omega,bl,I (cv.de bl FK.out)⟩
 case round =>
  obtain⟨m,rfl,m1,hm,dX,sx⟩:=hrel
  have Uu:=sx.out.1
  obtain⟨A0,c0,A1,c1,A2,c2,A3,c3,A6,c6,A7,c7,A8,c8,J4,e0,e1,e2,e3,e4,e5,e6,e7,e8,e9,iE,jc,jd,y0,y1,y2,y3,y4,y5,y6,y7,y8,te,sV,vr⟩:=cv.cells sx.out
  have qv:=I y1
  have fa:=y1.1
  have fb:=y1.2.1
  simp only[ar]at fa
  unfold maxLen at fb
  clear J4 y0 y1 y2 y3 y4 y5 y6 y7 y8 te sV vr
  have jg:U wr wr:=U.refl _
  have ga:¬w.heap.size=wr.heap.size:=aF
  by_cases h1:m<x1.length
  ·
   have hd:decide ((m:Int)<(x1.length:Int))=true:=aV
   (obtain⟨b1,o1,cz,cD,cE,Md,GV,gb,dS,gy,gF,kP,eN,mx,eO,fD,fE,fG⟩:=cw.el qv.out m h1 jg;subst gb)
   have iH:¬b1=wr.heap.size:=aF
   have F0:=I (show mZ x1[m]=(gJ cz&&cD.all gJ&&decide (cD.length<=6) && !qk cD&&decide (0<=cE)) by rw[gF.out];rfl)
   have hf:=mx.out.1
   have hfm:=mx.out.2.1
   simp only[ar]at hf
   unfold maxLen at hfm eN
   cases hn:gJ cz
   case false =>
    have xU:=I (show mZ x1[m]=false by rw[F0.out];simp[hn])
    have Wj:=I hn
    clear hn
    exact Ss
   case true =>
   have Wj:=I hn
   clear hn
   by_cases hlen:cD.length<=6
   case neg =>
    have xU:=I (show mZ x1[m]=false by rw[F0.out];simp[hlen])
    have RE:decide ((6:Int)<(cD.length:Int))=true:=aH
    have dl:decide ((cD.length:Int)<=6)=false:=aH
    exact Ss
   case pos =>
   have RE:decide ((6:Int)<(cD.length:Int))=false:=aH
   have dl:decide ((cD.length:Int)<=6)=true:=aH
   cases ha:cD.all gJ
   case false =>
    have xU:=I (show mZ x1[m]=false by rw[F0.out];simp[ha])
    have Wk:=I ha
    clear ha
    exact Ss
   case true =>
   have Wk:=I ha
   clear ha
   cases ht:qk cD
   case true =>
    have xU:=I (show mZ x1[m]=false by rw[F0.out];simp[ht])
    have Wl:=I ht
    clear ht
    exact Ss
   case false =>
   have Wl:=I ht
   clear ht
   by_cases hl:0<=cE
   case neg =>
    have xU:=I (show mZ x1[m]=false by rw[F0.out];simp[hl])
    have dhl:decide (cE<0)=true:=aH
    exact Ss
   case pos =>
   have dhl:decide (cE<0)=false:=aH
   have xU:=I (show mZ x1[m]=true by rw[F0.out,Wj.out,Wk.out,Wl.out,ay hlen,ay hl];first | done | rfl)
   have eF:=True.intro
   repeat (any_goals ((first | clear eF | go_quiet (fail));(try go_wp2_with (first | (go_at_call 103;refine (nC cz _).mono ?_;rintro e wa ⟨rfl,nL⟩;(try rw[Wj.out]);(have hza:=nL.sz;obtain⟨RF,RH,RI,RJ⟩:=nL.lay (w.heap.size);obtain⟨RM,RN,RO,RP⟩:=nL.lay (wr.heap.size);obtain⟨ahk,ahl,ahm,ahn⟩:=nL.lay (b1))) | (go_at_call 102;refine (qN cD 6 S _ _ _ (Row.de bl mx.out)).mono ?_;rintro e wb ⟨rfl,xT⟩;(try rw[Wk.out]);(try rw[dl]);(try simp only[Bool.and_true,Bool.true_and,Bool.and_false,Bool.false_and]);(have hzb:=xT.sz;obtain⟨RQ,RS,RT,RU⟩:=xT.lay (w.heap.size);obtain⟨RV,RW,RX,RY⟩:=xT.lay (wr.heap.size);obtain⟨aho,ahp,ahq,ahr⟩:=xT.lay (b1))) | (go_at_call 104;refine (zP cD S _ _ _ (Row.de bl mx.out)).mono ?_;rintro e wc ⟨rfl,yf⟩;(try rw[Wl.out]);(have hzc:=yf.sz;obtain⟨RZ,Sa,Sb,Sc⟩:=yf.lay (w.heap.size);obtain⟨Sd,Se,Sf,Sg⟩:=yf.lay (wr.heap.size);obtain⟨ahs,aht,ahu,ahv⟩:=yf.lay (b1)))))))
   go_roundw
   case rel=>exact⟨m+1,by go_num,by omega,fun j hj uy=>by
    by_cases e:j=m
    ·
     subst e;exact xU.out
    ·
     exact hm.out j hj aF,bl,I (cv.de bl sx.out)⟩
   case measure=>simp[intOf];omega
  have hd:decide ((m:Int)<(x1.length:Int))=false:=aV
  have abN:=I (show ∀j (hj:j<x1.length),j<x1.length->mZ x1[j]=true from fun j hj _=>hm.out j hj aF)
  clear hm
  go_wp2_with (fail)
  repeat (any_goals (go_quiet (fail);(try go_wp2_with (fail))))
  go_loopw [5] (fun v wr=>∃m:Nat,v=.int .i64 m/\m<=x6.length/\Hid (∀j (hj:j<x6.length),j<m->x6[j].size<=120)/\U w wr/\Hid (cv wr S w.heap.size (O.mk x0 x1 x2 x3 x4 x5 x6 x7 x8 x9 F G Z))) (fun v _=>x6.length - (intOf v).toNat)
  case atStart=>exact⟨0,rfl,by omega,fun j _ hj=>by omega,bl,I (cv.de bl sx.out)⟩
  case round =>
   obtain⟨m,rfl,m1,hm,dX,sx⟩:=hrel
   have Uu:=sx.out.1
   obtain⟨A0,c0,A1,c1,A2,c2,A3,c3,A6,c6,A7,c7,A8,c8,J4,e0,e1,e2,e3,e4,e5,e6,e7,e8,e9,iE,jc,jd,y0,y1,y2,y3,y4,y5,y6,y7,y8,te,sV,vr⟩:=cv.cells sx.out
   have GW:=I y6
   have eX:=y6.1
   have eY:=y6.2.1
   simp only[ar]at eX
   unfold maxLen at eY
   clear J4 y0 y1 y2 y3 y4 y5 y6 y7 y8 te sV vr
   have jg:U wr wr:=U.refl _
   have ga:¬w.heap.size=wr.heap.size:=aF
   by_cases h1:m<x6.length
   ·
    have hd:decide ((m:Int)<(x6.length:Int))=true:=aV
    obtain⟨b1,o1,gb,OZ,dS,jZ,c1x⟩:=zO GW.out m h1
    subst gb
    replace c1x:=(jg.box b1 dS _).trans c1x
    unfold maxLen at jZ
    by_cases h2:x6[m].size<=120
    ·
     have GC:decide ((120:Int)<(x6[m].size:Int))=false:=aH
     go_wp2_with (fail)
     repeat (any_goals (go_quiet (fail);(try go_wp2_with (fail))))
     go_roundw
     case rel=>exact⟨m+1,by go_num,by omega,fun j hj uy=>by
      by_cases e:j=m
      ·
       subst e;exact h2
      ·
       exact hm.out j hj aF,bl,I (cv.de bl sx.out)⟩
     case measure=>simp[intOf];omega
    ·
     have GC:decide ((120:Int)<(x6[m].size:Int))=true:=aH
     have RR:=I (Lf (s:=(O.mk x0 x1 x2 x3 x4 x5 x6 x7 x8 x9 F G Z)) m h1 (by show 120<x6[m].size;omega))
     exact lj
   have hd:decide ((m:Int)<(x6.length:Int))=false:=aV
   have J6:=I (show ∀j (hj:j<x6.length),j<x6.length->x6[j].size<=120 from fun j hj _=>hm.out j hj aF)
   clear hm
   go_wp2_with (fail)
   repeat (any_goals (go_quiet (fail);(try go_wp2_with (fail))))
   go_loopw [6] (fun v wr=>∃m:Nat,v=.int .i64 m/\m<=x8.length/\Hid (∀j (hj:j<x8.length),j<m->tP (O.mk x0 x1 x2 x3 x4 x5 x6 x7 x8 x9 F G Z) x8[j]=true)/\U w wr/\Hid (cv wr S w.heap.size (O.mk x0 x1 x2 x3 x4 x5 x6 x7 x8 x9 F G Z))) (fun v _=>x8.length - (intOf v).toNat)
   case atStart=>exact⟨0,rfl,by omega,fun j _ hj=>by omega,bl,I (cv.de bl sx.out)⟩
   case round =>
    obtain⟨m,rfl,m1,hm,dX,sx⟩:=hrel
    have Uu:=sx.out.1
    obtain⟨A0,c0,A1,c1,A2,c2,A3,c3,A6,c6,A7,c7,A8,c8,J4,e0,e1,e2,e3,e4,e5,e6,e7,e8,e9,iE,jc,jd,y0,y1,y2,y3,y4,y5,y6,y7,y8,te,sV,vr⟩:=cv.cells sx.out
    have kp:=I y2
    have ew:=y2.1
    have eL:=y2.2.1
    simp only[ar]at ew
    unfold maxLen at eL
    have OW:=I y8
    have fc:=y8.1
    have ff:=y8.2.1
    simp only[ar]at fc
    unfold maxLen at ff
    clear J4 y0 y1 y2 y3 y4 y5 y6 y7 y8 te sV vr
    have jg:U wr wr:=U.refl _
    have ga:¬w.heap.size=wr.heap.size:=aF
    by_cases h1:m<x8.length
    ·
     have hd:decide ((m:Int)<(x8.length:Int))=true:=aV
     (obtain⟨b1,o1,cz,cD,gb,dS,gy,gF,kP,eN,fi,fD,fE⟩:=cV.el OW.out m h1 jg;subst gb)
     have iH:¬b1=wr.heap.size:=aF
     have HAC:=I (show tP (O.mk x0 x1 x2 x3 x4 x5 x6 x7 x8 x9 F G Z) x8[m]=(decide (0<=cz/\cz<(x0.length:Int))&&decide (0<=cD/\cD<(x2.length:Int))&&(match x2[cD.toNat]? with | some o=>decide (o.kind=1) | none=>false)) by rw[gF.out];rfl)
     by_cases hr:0<=cz/\cz<(x0.length:Int)
     case neg =>
      have RR:=I (uC (s:=(O.mk x0 x1 x2 x3 x4 x5 x6 x7 x8 x9 F G Z)) m h1 (HAC.out.trans (by rw[ax hr];rfl)))
      have dr:(decide (0<=cz)&&decide (cz<=(x0.length:Int) - 1))=false:=aH
      clear hr
      exact St
     case pos =>
     have dr:decide (0<=cz)=true:=aH
     have dr2:decide (cz<=(x0.length:Int) - 1)=true:=aH
     by_cases hf:0<=cD/\cD<(x2.length:Int)
     case neg =>
      have RR:=I (uC (s:=(O.mk x0 x1 x2 x3 x4 x5 x6 x7 x8 x9 F G Z)) m h1 (HAC.out.trans (by rw[ax hf];simp)))
      have df:(decide (0<=cD)&&decide (cD<=(x2.length:Int) - 1))=false:=aH
      clear hf
      exact St
     case pos =>
     obtain⟨hf0,Ui⟩:=hf
     obtain⟨fr,rfl⟩:=Int.eq_ofNat_of_zero_le hf0
     have hfr:fr<x2.length:=aF
     have df:decide ((0:Int)<=(fr:Int))=true:=aJ
     have df2:decide ((fr:Int)<=(x2.length:Int) - 1)=true:=aH
     (obtain⟨b2,o2,da,dw,dx,dy,dz,aq3,aq4,aq5,aq6,mO,mu,nn,od,vz,kv,kz,kA,aoq,aor,jS,jT,jU,jV,jW⟩:=cr.el kp.out fr hfr jg;subst mO)
     have oC:¬b2=wr.heap.size:=aF
     have Si:=I (HAC.out.trans (show _=decide (da=1) by rw[ay hr,ay (show 0<=(fr:Int)/\(fr:Int)<(x2.length:Int) by omega),show ((fr:Int)).toNat=fr from Int.toNat_natCast fr,List.getElem?_eq_getElem hfr,od.out];rfl))
     by_cases hk:da=1
     ·
      have fk:(da != 1)=false:=aQ
      have HNW:=I (Si.out.trans (ay hk))
      clear hk
      have eF:=True.intro
      repeat (any_goals ((first | clear eF | go_quiet (fail));(try go_wp2_with (go_at_call 101;refine (pk _ _ _ _).mono ?_;rintro e w9 ⟨rfl,rfl⟩))))
      exact Zd
     ·
      have fk:(da != 1)=true:=aQ
      have RR:=I (uC (s:=(O.mk x0 x1 x2 x3 x4 x5 x6 x7 x8 x9 F G Z)) m h1 (Si.out.trans (ax hk)))
      clear hk
      exact St
    have hd:decide ((m:Int)<(x8.length:Int))=false:=aV
    have J5:=I (show ∀j (hj:j<x8.length),j<x8.length->tP (O.mk x0 x1 x2 x3 x4 x5 x6 x7 x8 x9 F G Z) x8[j]=true from fun j hj _=>hm.out j hj aF)
    clear hm
    go_wp2_with (fail)
    repeat (any_goals (go_quiet (fail);(try go_wp2_with (fail))))
    go_loopw [8] (fun v wr=>∃m:Nat,v=.int .i64 m/\m<=x2.length/\Hid ((∀j (hj:j<x2.length),j<m->cT (O.mk x0 x1 x2 x3 x4 x5 x6 x7 x8 x9 F G Z) x2[j]=true/\∀k (hk:k<j),x2[j].fC=0\/(x2[k]' aF).fC≠x2[j].fC))/\U w wr/\Hid (cv wr S w.heap.size (O.mk x0 x1 x2 x3 x4 x5 x6 x7 x8 x9 F G Z))) (fun v _=>x2.length - (intOf v).toNat)
    case atStart=>exact⟨0,rfl,by omega,fun j _ hj=>by omega,bl,I (cv.de bl sx.out)⟩
    case round =>
     obtain⟨m,rfl,m1,hm,dX,sx⟩:=hrel
     have Uu:=sx.out.1
     obtain⟨A0,c0,A1,c1,A2,c2,A3,c3,A6,c6,A7,c7,A8,c8,J4,e0,e1,e2,e3,e4,e5,e6,e7,e8,e9,iE,jc,jd,y0,y1,y2,y3,y4,y5,y6,y7,y8,te,sV,vr⟩:=cv.cells sx.out
     have kp:=I y2
     have ew:=y2.1
     have eL:=y2.2.1
     simp only[ar]at ew
     unfold maxLen at eL
     have Gm:=I y3
     have eK:=y3.1
     have eV:=y3.2.1
     simp only[ar]at eK
     unfold maxLen at eV
     clear J4 y0 y1 y2 y3 y4 y5 y6 y7 y8 te sV vr
     have jg:U wr wr:=U.refl _
     have ga:¬w.heap.size=wr.heap.size:=aF
     by_cases h1:m<x2.length
     ·
      have hd:decide ((m:Int)<(x2.length:Int))=true:=aV
      (obtain⟨b1,o1,cz,cD,cE,cB,cF,l8,iz,jG,jD,gb,dS,gy,gF,kP,eN,fi,eO,ed,iF,fD,fE,fG,fK,fN⟩:=cr.el kp.out m h1 jg;subst gb)
      have iH:¬b1=wr.heap.size:=aF
      have lI:=ed.out.1
      have om:=ed.out.2.1
      have aml:=iF.out.1
      have amm:=iF.out.2.1
      have Uh:=sx
      cases ho:cT (O.mk x0 x1 x2 x3 x4 x5 x6 x7 x8 x9 F G Z) x2[m]
      ·
       have HO:=I ho
       have RR:=I (Fx (s:=(O.mk x0 x1 x2 x3 x4 x5 x6 x7 x8 x9 F G Z)) m h1 ho)
       clear ho
       have eF:=True.intro
       repeat (any_goals ((first | clear eF | go_quiet (fail));(try go_wp2_with (go_at_call 105;refine (zN (O.mk x0 x1 x2 x3 x4 x5 x6 x7 x8 x9 F G Z) x2[m] S S w.heap.size _ _ (cv.de bl Uh.out) (Y.cA.de bl kP.out)).mono ?_;rintro e wo ⟨rfl,tn⟩;rw[HO.out];(have Uf:=tn.sz;obtain⟨H8,H9,Ia,Ib⟩:=tn.lay (w.heap.size);obtain⟨Ic,Ie,Ig,Ih⟩:=tn.lay (b1))))))
       all_goals
        go_returns
        exact⟨gA RR.out.symm,bl⟩
      ·
       have HO:=I ho
       clear ho
       have eF:=True.intro
       repeat (any_goals ((first | clear eF | go_quiet (fail));(try go_wp2_with (go_at_call 105;refine (zN (O.mk x0 x1 x2 x3 x4 x5 x6 x7 x8 x9 F G Z) x2[m] S S w.heap.size _ _ (cv.de bl Uh.out) (Y.cA.de bl kP.out)).mono ?_;rintro e wo ⟨rfl,tn⟩;rw[HO.out];(have Uf:=tn.sz;obtain⟨H8,H9,Ia,Ib⟩:=tn.lay (w.heap.size);obtain⟨Ic,Ie,Ig,Ih⟩:=tn.lay (b1))))))
       have HSO:=I (cv.de (show U wr wo from bl) sx.out)
       have aq8:U w wo:=bl
       go_loopw [9] (fun v wr2=>∃k:Nat,v=.int .i64 k/\k<=m/\Hid (∀j (hj:j<k) (uy:j<x2.length),cE=0\/x2[j].fC≠cE)/\U w wr2/\Hid (cv wr2 S w.heap.size (O.mk x0 x1 x2 x3 x4 x5 x6 x7 x8 x9 F G Z))) (fun v _=>m - (intOf v).toNat)
       case atStart=>exact⟨0,rfl,by omega,fun j hj _=>by omega,bl,HSO.out⟩
       case round =>
        obtain⟨k,rfl,k1,hk,tU,sx⟩:=hrel
        have HX0:=gF
        have Uu:=sx.out.1
        obtain⟨A0,c0,A1,c1,A2,c2,A3,c3,A6,c6,A7,c7,A8,c8,J4,e0,e1,e2,e3,e4,e5,e6,e7,e8,e9,iE,jc,jd,y0,y1,y2,y3,y4,y5,y6,y7,y8,te,sV,vr⟩:=cv.cells sx.out
        have kp:=I y2
        have ew:=y2.1
        have eL:=y2.2.1
        simp only[ar]at ew
        unfold maxLen at eL
        clear J4 y0 y1 y2 y3 y4 y5 y6 y7 y8 te sV vr
        have jg:U wr wr:=U.refl _
        have ga:¬w.heap.size=wr.heap.size:=aF
        have hSX:=I (show x2[m].fC=cE by rw[gF.out];rfl)
        by_cases h2:k<m
        ·
         have GC:decide ((k:Int)<(m:Int))=true:=by simp[h2]
         have h2':k<x2.length:=aF
         (obtain⟨b4,o4,iq,fV,iu,iA,iB,aq9,ara,arb,arc,Vw,hl4,LH,Yb,HV4,QA,abd,QB,aos,aot,Mx,My,Mz,Vx,Vy⟩:=cr.el kp.out m h1 jg;subst Vw)
         (obtain⟨b5,o5,Vz,VA,He,VC,VD,MA,De,vo,vp,VE,hl5,OV,VF,HV5,VG,VH,VI,qH,oX,ua,ub,uc,ud,qB⟩:=cr.el kp.out k h2' jg;injection Option.some.inj VE with VJ VK _;subst VJ VK)
         obtain⟨-,-,rfl,-,-⟩:cz=iq/\cD=fV/\cE=iu/\cB=iA/\cF=iB:=by have:=gF.out.symm.trans Yb.out;simpa using this
         have hS5:=I (show x2[k].fC=He by rw[VF.out];rfl)
         by_cases hs0:cE=0
         ·
          have fs:(cE != 0)=false:=by simp[hs0]
          have HNW:=I (show cE=0\/x2[k].fC≠cE from Or.inl hs0)
          clear hs0
          exact Ze
         ·
          have fs:(cE != 0)=true:=by simp[hs0]
          by_cases hse:cE=He
          ·
           have fe:(cE==He)=true:=by simp[hse]
           have RR:=I (Lh (s:=(O.mk x0 x1 x2 x3 x4 x5 x6 x7 x8 x9 F G Z)) (Sq m k (by simpa[O.gd]using h1) h2 (by simp only[O.gd,List.getElem_map];rw[hSX.out];exact hs0) (by simp only[O.gd,List.getElem_map];rw[hSX.out,hS5.out];exact hse.symm)))
           clear hs0 hse
           exact lj
          ·
           have fe:(cE==He)=false:=by simp[hse]
           have HNW:=I (show cE=0\/x2[k].fC≠cE from Or.inr (by rw[hS5.out];exact fun e=>hse e.symm))
           clear hs0 hse
           exact Ze
        ·
         have GC:decide ((k:Int)<(m:Int))=false:=by simp[h2]
         go_wp2_with (fail)
         repeat (any_goals (go_quiet (fail);(try go_wp2_with (fail))))
         go_roundw
         case rel=>exact⟨m+1,by go_num,by omega,fun j hj uy=>by
          by_cases e:j=m
          ·
           subst e;exact⟨HO.out,fun k2 nF=>by rw[hSX.out];exact hk.out k2 aF aF⟩
          ·
           exact hm.out j hj aF,bl,I (cv.de bl sx.out)⟩
         case measure=>simp[intOf];omega
     have hd:decide ((m:Int)<(x2.length:Int))=false:=aV
     have Su:=I (show (∀j (hj:j<x2.length),j<x2.length->cT (O.mk x0 x1 x2 x3 x4 x5 x6 x7 x8 x9 F G Z) x2[j]=true/\∀k (hk:k<j),x2[j].fC=0\/(x2[k]' aF).fC≠x2[j].fC)from fun j hj _=>hm.out j hj aF)
     clear hm
     go_wp2_with (fail)
     repeat (any_goals (go_quiet (fail);(try go_wp2_with (fail))))
     cases hg:fS (O.mk x0 x1 x2 x3 x4 x5 x6 x7 x8 x9 F G Z) x3
     ·
      have HG:=I hg
      have RR:=I (Lg (s:=(O.mk x0 x1 x2 x3 x4 x5 x6 x7 x8 x9 F G Z)) hg)
      clear hg
      exact Zf
     ·
      have HG:=I hg
      have RR:=I (Li (s:=(O.mk x0 x1 x2 x3 x4 x5 x6 x7 x8 x9 F G Z)) HH.out (fun j hj=>abN.out j hj hj) (fun j hj=>J6.out j hj hj) (fun j hj=>J5.out j hj hj) (fun j hj=>(Su.out j hj hj).1) (Sr fun a ha b hb=>by simp only[List.getElem_map];exact (Su.out a bW bW).2 b hb) hg)
      clear hg
      exact Zf
end Go.Proofs.YtjngkknbpfgdcaaGreatDoor
