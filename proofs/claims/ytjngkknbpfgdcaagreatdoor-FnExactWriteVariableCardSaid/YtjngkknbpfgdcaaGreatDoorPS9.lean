import Derived.Test.YtjngkknbpfgdcaaGreatDoorPr
import Derived.Test.YtjngkknbpfgdcaaGreatDoorPS7h
import Derived.Test.YtjngkknbpfgdcaaGreatDoorPShelf
import Derived.Maps.OwnOps
import Derived.Maps.OwnSet
set_option linter.unusedVariables false
set_option linter.unusedSimpArgs false
set_option maxRecDepth 100000
set_option maxHeartbeats 8000000
namespace Go.Proofs.YtjngkknbpfgdcaaGreatDoor
open Go.RowKit Go.Maps
--%quiet
theorem Qm {s:cv} {r f:Int}:zz s (.mk r f)=(decide (0<=r/\r<(s.names.length:Int))&&hasB s f 1):=by
 unfold zz hasB
 simp only[cJ.routine,cJ.frame]
 by_cases h0:0<=f
 ·
  by_cases hl:f<(s.objects.length:Int)
  ·
   simp[h0,hl]
   first | rfl | (congr 1;by_cases a:0<=r <;> by_cases b:r<(s.names.length:Int) <;> simp[a,b])
  ·
   have hn:s.objects[f.toNat]?=none:=List.getElem?_eq_none aB
   simp[hl,hn]
 ·
  simp[h0]
theorem wV {H:Type} {P:Program} {e:TypeId} (he:P.underlying e=some .bool) {v:Value} {z:DataW H × List MemPlace} (h:plainElem P e v=some z):∃x,v=.bool x/\z=(.lit (.bool x),[]):=by
 unfold plainElem at h
 rw[he]at h
 cases v <;> simp at h
 exact⟨_,rfl,h.symm⟩
theorem World.ownsMap.FL {H:Type} {P:Program} {k:TypeId} {w:World} {b n:Nat} {D:DataW H} {t e:TypeId} (h:w.ownsMap P k (plainElem P e) b n D) (K:Keyed P k) (ht:P.underlying t=some (.map k e)) (he:P.underlying e=some .bool) (hz:(zeroValue e).run P w=.ok (.bool false) w)
  {key:Value} {kl:Lit} (hkey:keyOf P k key=some kl):∃c,(Instr.lookup t (.map (some b)) key false).run P w=.ok (.bool c) w/\D.atKey kl (.lit (.bool false))=.lit (.bool c):=by
 obtain⟨v,ps,hrun,hv⟩:=Go.World.ownsMap.lookup h K ht hz (plainElem_bool he false) hkey
 obtain⟨c,rfl,hc⟩:=wV he hv
 simp only[Prod.mk.injEq]at hc
 exact⟨c,hrun,hc.1⟩
theorem mR {H:Type} {P:Program} (w:World) {ops:Array Oper} {rest:List Oper} {o:Oper} {a:Act} {Q:Exit->Act->World->Prop}
  (hg:o.guard=none) (m x:Operand) (t:TypeId) (hop:o.op=Op.lookup t m x false)
  (k e:TypeId) (K:Keyed P k) (ht:P.underlying t=some (.map k e)) (he:P.underlying e=some .bool) (hz:(zeroValue e).run P w=.ok (.bool false) w) (b n:Nat) (D:DataW H)
  (hm:a.eval m=.map (some b)) (hown:w.ownsMap P k (plainElem P e) b n D) (key:Value) (kl:Lit) (hx:a.eval x=key) (hkey:keyOf P k key=some kl)
  (hK:∀c:Bool,D.atKey kl (.lit (.bool false))=.lit (.bool c)->wpList P ops Q rest (a.put o.dst (.bool c)) w) :
  wpList P ops Q (o :: rest) a w:=by
 refine wpList_plain hg fun K' hK'=>?_
 obtain⟨c,hrun,hat⟩:=World.ownsMap.FL hown K ht he hz hkey
 unfold Oper.wp
 simp[execOp,hop,hm,hx,hrun,Result.andThen]
 exact hK' _ _ (hK c hat)
theorem og {H:Type} {P:Program} {k:TypeId} {R:Value->Option (DataW H × List MemPlace)} {w w':World} {b n:Nat} {D:DataW H} (h:w.ownsMap P k R b n D) (hb:cE w w'):w'.ownsMap P k R b n D:=by
 have hlt:=h.lt
 obtain⟨es,clock,hbk,F,hs,hD⟩:=h
 exact⟨es,clock,(Below.block hb b hlt).trans hbk,F,hs,hD⟩
theorem DW:Keyed Tryz.prog 3:=int_keyed Tryz.underlying3
theorem FM (w:World):(zeroValue 4).run Tryz.prog w=.ok (.bool false) w:=by kernel_rfl
def Seen (l:List cz) (m:Nat) (D:DataW Unit):Prop:=IsMap D/\∀n:Int,fD n->D.atKey (.int .i64 n) (.lit (.bool false))=.lit (.bool ((l.take m).any fun o=>decide (o.gK=n)&&decide (n≠0)))
theorem Seen.zero (l:List cz):Seen l 0 (.map []):=⟨isMap_empty,fun n _=>by simp[DataW.atKey]⟩
theorem Seen.skip {l:List cz} {m:Nat} {D:DataW Unit} (h:Seen l m D) (hm:m<l.length) (h0:l[m].gK=0):Seen l (m+1) D:=by
 refine⟨h.1,fun n hn=>?_⟩
 rw[h.2 n hn,List.take_succ_eq_append_getElem hm,List.any_append]
 have:((([l[m]]:List cz)).any fun o=>decide (o.gK=n)&&decide (n≠0))=false:=by
  simp only[List.any_cons,List.any_nil,Bool.or_false,h0]
  by_cases e:n=0
  ·
   simp[e]
  ·
   rw[aq (fun q=>e q.symm)];rfl
 rw[this,Bool.or_false]
theorem Cz {n:Int} (h:fD n):(Lit.int .i64 n).wf=true:=WalkArith.wf_i64 (by unfold fD at h;omega)
theorem ZU {n:Int} (h:fD n):WideAt.IsKeyLit (.int .i64 n):=by
 have:=Maps.keyOf_int_mk (P:=Tryz.prog) Tryz.underlying3 (Cz h)
 first | exact WideAt.Tp _ _ | exact trivial | (unfold WideAt.IsKeyLit;trivial) | simp[WideAt.IsKeyLit]
theorem Seen.put {l:List cz} {m:Nat} {D:DataW Unit} (h:Seen l m D) (hm:m<l.length) (h0:l[m].gK≠0) (hi:fD l[m].gK):Seen l (m+1) (D.put (.int .i64 l[m].gK) (.lit (.bool true))):=by
 refine⟨h.1.put _ _,fun n hn=>?_⟩
 rw[List.take_succ_eq_append_getElem hm,List.any_append]
 by_cases e:n=l[m].gK
 ·
  subst e
  rw[atKey_put_same h.1 (ZU hi)]
  simp[h0]
 ·
  rw[atKey_put_other (fun q=>e (by injection q)),h.2 n hn]
  have:((([l[m]]:List cz)).any fun o=>decide (o.gK=n)&&decide (n≠0))=false:=by
   simp only[List.any_cons,List.any_nil,Bool.or_false]
   rw[aq (fun q=>e q.symm)];rfl
  rw[this,Bool.or_false]
theorem Qn {l:List cz} {m:Nat} {n:Int} (hn:n≠0):((l.take m).any fun o=>decide (o.gK=n)&&decide (n≠0))=true↔∃k,∃(h:k<l.length),k<m/\l[k].gK=n:=by
 rw[List.any_eq_true]
 constructor
 ·
  rintro⟨o,ho,he⟩
  obtain⟨k,hk,rfl⟩:=List.mem_iff_getElem.1 ho
  rw[List.getElem_take]at he
  simp only[Bool.and_eq_true,decide_eq_true_eq]at he
  exact⟨k,by simp at hk;omega,by simp at hk;omega,he.1⟩
 ·
  rintro⟨k,h1,h2,h3⟩
  exact⟨l[k],List.mem_iff_getElem.2 ⟨k,by simp;omega,by simp⟩,by simp[h3,hn]⟩
theorem ru (l:List cA) (S:Nat->Prop) (w:World) (A:Option Addr) (c:Nat) (hR:Row w S 3 A c (l.map cA.D)) (ht:Sp w) :
  Calls Tryz.prog 38 #[.slice A l.length c] w fun e w'=>e=.returned (.bool (l.all mY&&decide (l.length<=8)))/\cE w w':=by
 have HR:=hide hR
 have HT:=hide ht
 have hlen:=hR.1
 have hcm:=hR.2.1
 simp only[aj]at hlen
 unfold maxLen at hcm
 clear hR ht
 go_enter Tryz.func38,Tryz.ntmps38
 go_wp2_with (fail)
 repeat (any_goals (go_quiet (fail);(try go_wp2_with (fail))))
 go_loopw [7] (fun v wr=>∃m:Nat,v=.int .i64 m/\m<=l.length/\Hid (∀j (hj:j<l.length),j<m->mY l[j]=true)/\cE w wr) (fun v _=>l.length - (intOf v).toNat)
 case atStart=>exact⟨0,rfl,by omega,fun j _ hj=>by omega,bl⟩
 case round =>
  obtain⟨m,rfl,m1,hm,hbw⟩:=hrel
  by_cases h1:m<l.length
  ·
   have hd:decide ((m:Int)<(l.length:Int))=true:=aX
   (obtain⟨b1,o1,cH,cM,cN,Ad,xW,hA1,hS1,hl1,hx1,hv1,eY,eG,fa,db,de,dq⟩:=cA.at HR.out m h1;subst hA1;have jh:=hide (Dat.cC.bel hbw hv1);have hh1:=hbw.box b1 hl1;have hw1:=ak hl1 (cE.size hbw);replace db:=(hh1 _).trans db;replace de:=(hh1 _).trans de;replace dq:=(hh1 _).trans dq;have gv:=hide hx1;have kX:=hide eG;clear hh1 hv1 hx1 hS1 eG)
   have hne1:¬b1=wr.heap.size:=aB
   have DV:=hide (show mY l[m]=(nameB cH&&cM.all nameB&&decide (cM.length<=6) && !pR cM&&decide (0<=cN)) by rw[gv.out];rfl)
   have hf:=kX.out.1
   have hfm:=kX.out.2.1
   simp only[aj]at hf
   unfold maxLen at hfm eY
   cases hn:nameB cH
   case false =>
    have HR0:=hide (show mY l[m]=false by rw[DV.out];simp[hn])
    have Tj:=hide hn
    clear hn
    exact Qo
   case true =>
   have Tj:=hide hn
   clear hn
   by_cases hlen:cM.length<=6
   case neg =>
    have HR0:=hide (show mY l[m]=false by rw[DV.out];simp[hlen])
    have PN:decide ((6:Int)<(cM.length:Int))=true:=aD
    have dl:decide ((cM.length:Int)<=6)=false:=aD
    exact Qo
   case pos =>
   have PN:decide ((6:Int)<(cM.length:Int))=false:=aD
   have dl:decide ((cM.length:Int)<=6)=true:=aD
   cases ha:cM.all nameB
   case false =>
    have HR0:=hide (show mY l[m]=false by rw[DV.out];simp[ha])
    have Tk:=hide ha
    clear ha
    exact Qo
   case true =>
   have Tk:=hide ha
   clear ha
   cases ht:pR cM
   case true =>
    have HR0:=hide (show mY l[m]=false by rw[DV.out];simp[ht])
    have Tl:=hide ht
    clear ht
    exact Qo
   case false =>
   have Tl:=hide ht
   clear ht
   by_cases hl:0<=cN
   case neg =>
    have HR0:=hide (show mY l[m]=false by rw[DV.out];simp[hl])
    have dhl:decide (cN<0)=true:=aD
    exact Qo
   case pos =>
   have dhl:decide (cN<0)=false:=aD
   have HR0:=hide (show mY l[m]=true by rw[DV.out,Tj.out,Tk.out,Tl.out,ar hlen,ar hl];first | done | rfl)
   have fg:=True.intro
   repeat (any_goals ((first | clear fg | go_quiet (fail));(try go_wp2_with (first | (go_at_call 94;refine (mS cH _ (HT.out.on bl)).mono ?_;rintro e wa ⟨rfl,hba⟩;(try rw[Tj.out]);(have hza:=hba.sz;obtain⟨PO,PQ,PS,PT⟩:=hba.lay (wr.heap.size);obtain⟨PU,PV,PW,PX⟩:=hba.lay (b1))) | (go_at_call 37;refine (mT cM S _ _ _ (Row.bel bl kX.out) (HT.out.on bl)).mono ?_;rintro e wb ⟨rfl,hbb⟩;(try rw[Tk.out]);(have hzb:=hbb.sz;obtain⟨PY,P0,P2,P4⟩:=hbb.lay (wr.heap.size);obtain⟨P5,P6,P7,P8⟩:=hbb.lay (b1))) | (go_at_call 95;refine (xA cM S _ _ _ (Row.bel bl kX.out)).mono ?_;rintro e wc ⟨rfl,hbc⟩;(try rw[Tl.out]);(have hzc:=hbc.sz;obtain⟨P9,Qa,Qb,Qc⟩:=hbc.lay (wr.heap.size);obtain⟨Qd,Qe,Qf,Qg⟩:=hbc.lay (b1)))))))
   go_roundw
   case rel=>exact⟨m+1,by go_num,by omega,fun j hj hjm=>by
    by_cases e:j=m
    ·
     subst e;exact HR0.out
    ·
     exact hm.out j hj aB,bl⟩
   case measure=>simp[intOf];omega
  ·
   have hd:decide ((m:Int)<(l.length:Int))=false:=aX
   have HE:=hide (show decide ((l.length:Int)<=8)=(l.all mY&&decide (l.length<=8)) by rw[xB (f:=mY) (l:=l) fun k hk=>hm.out k hk aB,Bool.true_and];rw[Bool.eq_iff_iff];simp;omega)
   go_wp2_with (fail)
   repeat (any_goals (go_quiet (fail);(try go_wp2_with (fail))))
   all_goals
    go_returns
    exact⟨gG HE.out,bl⟩
theorem lU (s:cv) (S:Nat->Prop) (w:World) (vs:List Value) (htab:Sp w) (hv:Dat.cC w S s.D vs):Calls Tryz.prog 10 #[.agg vs.toArray] w fun e w'=>e=.returned (.bool (gJ s))/\cE w w':=by
 revert hv
 intro hv
 obtain⟨x0,x1,x2,x3,x4,x5,x6,x7,x8,x9,x10,x11,x12⟩:=s
 have HV:=hide hv
 obtain⟨A0,c0,A1,c1,A2,c2,A3,c3,A6,c6,A7,c7,A8,c8,rfl,g0,g1,g2,g3,g4,g5,g6,g7,g8,-,g10,g11,g12⟩:=cv.vals hv
 have HR0:=hide g0
 have gg:=g0.1
 have hcm0:=g0.2.1
 simp only[aj]at gg
 unfold maxLen at hcm0
 have HR1:=hide g1
 have ga:=g1.1
 have hcm1:=g1.2.1
 simp only[aj]at ga
 unfold maxLen at hcm1
 have HR2:=hide g2
 have fB:=g2.1
 have hcm2:=g2.2.1
 simp only[aj]at fB
 unfold maxLen at hcm2
 have HR3:=hide g3
 have fL:=g3.1
 have fV:=g3.2.1
 simp only[aj]at fL
 unfold maxLen at fV
 have IK:=hide g6
 have fW:=g6.1
 have fZ:=g6.2.1
 simp only[aj]at fW
 unfold maxLen at fZ
 have HR7:=hide g7
 have gh:=g7.1
 have gi:=g7.2.1
 simp only[aj]at gh
 unfold maxLen at gi
 have SE:=hide g8
 have gb:=g8.1
 have gd:=g8.2.1
 simp only[aj]at gb
 unfold maxLen at gd
 unfold maxLen at g4
 clear hv g0 g1 g2 g3 g6 g7 g8
 have Oy:=hide (show cG (w.alloc (.cells #[.slice A0 x0.length c0,.slice A1 x1.length c1,.slice A2 x2.length c2,.slice A3 x3.length c3,.string x4,.int .i64 x5,.slice A6 x6.length c6,.slice A7 x7.length c7,.slice A8 x8.length c8,.bool x9,.int .i64 x10,.int .i64 x11,.int .i64 x12] 30)) S w.heap.size (cv.mk x0 x1 x2 x3 x4 x5 x6 x7 x8 x9 x10 x11 x12)from cG.EX HV.out rfl)
 have HT:=hide htab
 clear htab
 by_cases hc0:x0.length<=12
 case neg =>
  have RR:=hide (gF (s:=(cv.mk x0 x1 x2 x3 x4 x5 x6 x7 x8 x9 x10 x11 x12)) (by rw[gX,aq hc0];simp))
  have d0:decide ((12:Int)<(x0.length:Int))=true:=aD
  go_enter Tryz.func10,Tryz.ntmps10
  exact ov
 case pos =>
 have d0:decide ((12:Int)<(x0.length:Int))=false:=aD
 by_cases hc1:x0.all nameB=true
 case neg =>
  have RR:=hide (gF (s:=(cv.mk x0 x1 x2 x3 x4 x5 x6 x7 x8 x9 x10 x11 x12)) (by rw[gX,Bool.eq_false_iff.2 hc1];simp))
  have HN:=hide (Bool.eq_false_iff.2 hc1)
  have HH1:=hide hc1
  clear hc1
  go_enter Tryz.func10,Tryz.ntmps10
  have fg:=True.intro
  repeat (any_goals ((first | clear fg | go_quiet (fail));(try go_wp2_with (first | (go_at_call 37;refine (mT x0 S _ _ _ (Row.bel bl HR0.out) (HT.out.on bl)).mono ?_;rintro e w8 ⟨rfl,hb8⟩;rw[HN.out];(have Zu:=hb8.sz;obtain⟨Jr,Js,Jt,Ju⟩:=hb8.lay (w.heap.size)))))))
  all_goals
   go_returns
   exact⟨gG RR.out.symm,bl⟩
 case pos =>
 have HN:=hide (hc1)
 have HH1:=hide hc1
 clear hc1
 by_cases hc2:(x1.all mY&&decide (x1.length<=8))=true
 case neg =>
  have RR:=hide (Qp (s:=(cv.mk x0 x1 x2 x3 x4 x5 x6 x7 x8 x9 x10 x11 x12)) hc2)
  have HRE:=hide (Bool.eq_false_iff.2 hc2)
  have HH2:=hide hc2
  clear hc2
  exact Lj
 case pos =>
 have HRE:=hide (hc2)
 have HH2:=hide hc2
 clear hc2
 by_cases hc3:x3.length<=12
 case neg =>
  have RR:=hide (gF (s:=(cv.mk x0 x1 x2 x3 x4 x5 x6 x7 x8 x9 x10 x11 x12)) (by rw[gX,aq hc3];simp))
  have d3:decide ((12:Int)<(x3.length:Int))=true:=aD
  exact Lj
 case pos =>
 have d3:decide ((12:Int)<(x3.length:Int))=false:=aD
 by_cases hc4:x4.size<=120
 case neg =>
  have RR:=hide (gF (s:=(cv.mk x0 x1 x2 x3 x4 x5 x6 x7 x8 x9 x10 x11 x12)) (by rw[gX,aq hc4];simp))
  have d4:decide ((120:Int)<(x4.size:Int))=true:=aD
  exact Lj
 case pos =>
 have d4:decide ((120:Int)<(x4.size:Int))=false:=aD
 have hp:1<=x5/\x5<=(x4.size:Int)+1\/¬(1<=x5/\x5<=(x4.size:Int)+1):=Classical.em _
 by_cases hc5:1<=x5
 case neg =>
  have RR:=hide (gF (s:=(cv.mk x0 x1 x2 x3 x4 x5 x6 x7 x8 x9 x10 x11 x12)) (by rw[gX,aq (show ¬(1<=x5/\x5<=(x4.size:Int)+1) by omega)];simp))
  have d5:decide (x5<1)=true:=aD
  exact Lj
 case pos =>
 have d5:decide (x5<1)=false:=aD
 by_cases hc6:x5<=(x4.size:Int)+1
 case neg =>
  have RR:=hide (gF (s:=(cv.mk x0 x1 x2 x3 x4 x5 x6 x7 x8 x9 x10 x11 x12)) (by rw[gX,aq (show ¬(1<=x5/\x5<=(x4.size:Int)+1) by omega)];simp))
  have d6:decide ((x4.size:Int)+1<x5)=true:=aD
  exact Lj
 case pos =>
 have d6:decide ((x4.size:Int)+1<x5)=false:=aD
 by_cases hc7:x8.length<=40
 case neg =>
  have RR:=hide (gF (s:=(cv.mk x0 x1 x2 x3 x4 x5 x6 x7 x8 x9 x10 x11 x12)) (by rw[gX,aq hc7];simp))
  have d7:decide ((40:Int)<(x8.length:Int))=true:=aD
  exact Lj
 case pos =>
 have d7:decide ((40:Int)<(x8.length:Int))=false:=aD
 clear hp
 go_enter Tryz.func10,Tryz.ntmps10
 have fg:=True.intro
 repeat (any_goals ((first | clear fg | go_quiet (fail));(try go_wp2_with (first | (go_at_call 37;refine (mT x0 S _ _ _ (Row.bel bl HR0.out) (HT.out.on bl)).mono ?_;rintro e w8 ⟨rfl,hb8⟩;rw[HN.out];(have Zu:=hb8.sz;obtain⟨Jr,Js,Jt,Ju⟩:=hb8.lay (w.heap.size))) | (go_at_call 38;refine (ru x1 S _ _ _ (Row.bel bl HR1.out) (HT.out.on bl)).mono ?_;rintro e w9 ⟨rfl,Gy⟩;rw[HRE.out];(have BB:=Gy.sz;obtain⟨aet,aeu,aev,aew⟩:=Gy.lay (w.heap.size)))))))
 have ahJ:=SE
 go_loopw [61] (fun v wq=>∃m:Nat,v=.int .i64 m/\m<=x8.length/\Hid (∀j (hj:j<x8.length),j<m->zz (cv.mk x0 x1 x2 x3 x4 x5 x6 x7 x8 x9 x10 x11 x12) x8[j]=true)/\cE w wq/\Hid (cG wq S w.heap.size (cv.mk x0 x1 x2 x3 x4 x5 x6 x7 x8 x9 x10 x11 x12))) (fun v _=>x8.length - (intOf v).toNat)
 case atStart=>exact⟨0,rfl,by omega,fun j _ hj=>by omega,bl,hide (cG.bel bl Oy.out)⟩
 case round =>
  obtain⟨m,rfl,m1,hm,hbw,hsw⟩:=hrel
  have hqz:=hsw.out.1
  obtain⟨A0,c0,A1,c1,A2,c2,A3,c3,A6,c6,A7,c7,A8,c8,Hq,e0,e1,e2,e3,e4,e5,e6,e7,e8,e9,e10,e11,e12,y0,y1,y2,y3,y4,y5,y6,y7,y8,sB,sC,sM⟩:=cG.cells hsw.out
  have IK:=hide y6
  have fW:=y6.1
  have fZ:=y6.2.1
  simp only[aj]at fW
  unfold maxLen at fZ
  clear Hq y0 y1 y2 y3 y4 y5 y6 y7 y8 sB sC sM
  have hbr:cE wr wr:=cE.refl _
  have gM:¬w.heap.size=wr.heap.size:=aB
  by_cases h1:m<x8.length
  ·
   have hd:decide ((m:Int)<(x8.length:Int))=true:=aX
   have hbz:=cE.size hbw
   (obtain⟨b1,o1,cH,cM,hA1,hS1,hl1,hx1,hv1,eY,eG,db,de⟩:=cJ.at ahJ.out m h1;subst hA1;have jh:=hide (Dat.cC.bel hbw hv1);have hh1:=hbw.box b1 hl1;have hw1:=ak hl1 (cE.size hbw);replace db:=(hh1 _).trans db;replace de:=(hh1 _).trans de;have gv:=hide hx1;clear hh1 hv1 hx1 hS1)
   have hne1:¬b1=wr.heap.size:=aB
   have ZT:=hide (show zz (cv.mk x0 x1 x2 x3 x4 x5 x6 x7 x8 x9 x10 x11 x12) x8[m]=(decide (0<=cH/\cH<(x0.length:Int))&&hasB (cv.mk x0 x1 x2 x3 x4 x5 x6 x7 x8 x9 x10 x11 x12) cM 1) by rw[gv.out,Qm];rfl)
   have Sn:=hsw
   by_cases hr0:0<=cH
   case neg =>
    have dr:decide (cH<0)=true:=aD
    have RR:=hide (tR (s:=(cv.mk x0 x1 x2 x3 x4 x5 x6 x7 x8 x9 x10 x11 x12)) m h1 (ZT.out.trans (by rw[aq (fun q:0<=cH/\cH<(x0.length:Int)=>hr0 q.1)];rfl)))
    clear hr0
    exact ov
   case pos =>
   have dr:decide (cH<0)=false:=aD
   by_cases hr1:cH<(x0.length:Int)
   case neg =>
    have dr2:decide ((x0.length:Int)<=cH)=true:=aD
    have RR:=hide (tR (s:=(cv.mk x0 x1 x2 x3 x4 x5 x6 x7 x8 x9 x10 x11 x12)) m h1 (ZT.out.trans (by rw[aq (fun q:0<=cH/\cH<(x0.length:Int)=>hr1 q.2)];rfl)))
    clear hr1
    exact ov
   case pos =>
   have dr2:decide ((x0.length:Int)<=cH)=false:=aD
   have Qi:=hide (ZT.out.trans (by rw[ar (⟨hr0,hr1⟩:0<=cH/\cH<(x0.length:Int)),Bool.true_and]))
   clear hr0 hr1
   cases hh:hasB (cv.mk x0 x1 x2 x3 x4 x5 x6 x7 x8 x9 x10 x11 x12) cM 1
   ·
    have HH:=hide hh
    have RR:=hide (tR (s:=(cv.mk x0 x1 x2 x3 x4 x5 x6 x7 x8 x9 x10 x11 x12)) m h1 (Qi.out.trans hh))
    clear hh
    have fg:=True.intro
    repeat (any_goals ((first | clear fg | go_quiet (fail));(try go_wp2_with (go_at_call 39;refine (ql (cv.mk x0 x1 x2 x3 x4 x5 x6 x7 x8 x9 x10 x11 x12) _ _ S w.heap.size _ (cG.bel bl Sn.out)).mono ?_;rintro e w2 ⟨rfl,hb2⟩;rw[HH.out];(have hz2:=hb2.sz;obtain⟨gO,lJ,mG,mH⟩:=hb2.lay (w.heap.size);obtain⟨iW,nT,sn,su⟩:=hb2.lay (wr.heap.size))))))
    all_goals
     go_returns
     exact⟨gG RR.out.symm,bl⟩
   ·
    have HH:=hide hh
    have HNW:=hide (Qi.out.trans hh)
    clear hh
    have fg:=True.intro
    repeat (any_goals ((first | clear fg | go_quiet (fail));(try go_wp2_with (go_at_call 39;refine (ql (cv.mk x0 x1 x2 x3 x4 x5 x6 x7 x8 x9 x10 x11 x12) _ _ S w.heap.size _ (cG.bel bl Sn.out)).mono ?_;rintro e w2 ⟨rfl,hb2⟩;rw[HH.out];(have hz2:=hb2.sz;obtain⟨gO,lJ,mG,mH⟩:=hb2.lay (w.heap.size);obtain⟨iW,nT,sn,su⟩:=hb2.lay (wr.heap.size))))))
    exact XK
  have hd:decide ((m:Int)<(x8.length:Int))=false:=aX
  have Hs:=hide (show ∀j (hj:j<x8.length),j<x8.length->zz (cv.mk x0 x1 x2 x3 x4 x5 x6 x7 x8 x9 x10 x11 x12) x8[j]=true from fun j hj _=>hm.out j hj aB)
  clear hm
  have ahK:=IK
  go_wp2_with (fail)
  repeat (any_goals (go_quiet (fail);(try go_wp2_with (fail))))
  go_loopw [86] (fun v wq=>∃m:Nat,v=.int .i64 m/\m<=x6.length/\Hid (∀j (hj:j<x6.length),j<m->x6[j].size<=120)/\cE w wq/\Hid (cG wq S w.heap.size (cv.mk x0 x1 x2 x3 x4 x5 x6 x7 x8 x9 x10 x11 x12))/\cE wr wq) (fun v _=>x6.length - (intOf v).toNat)
  case atStart=>exact⟨0,rfl,by omega,fun j _ hj=>by omega,bl,hide (cG.bel bl hsw.out),bl⟩
  case round =>
   obtain⟨m,rfl,m1,hm,hbw,hsw,uE⟩:=hrel
   have hqz:=hsw.out.1
   obtain⟨A0,c0,A1,c1,A2,c2,A3,c3,A6,c6,A7,c7,A8,c8,Hq,e0,e1,e2,e3,e4,e5,e6,e7,e8,e9,e10,e11,e12,y0,y1,y2,y3,y4,y5,y6,y7,y8,sB,sC,sM⟩:=cG.cells hsw.out
   have HR2:=hide y2
   have fB:=y2.1
   have hcm2:=y2.2.1
   simp only[aj]at fB
   unfold maxLen at hcm2
   have HR3:=hide y3
   have fL:=y3.1
   have fV:=y3.2.1
   simp only[aj]at fL
   unfold maxLen at fV
   clear Hq y0 y1 y2 y3 y4 y5 y6 y7 y8 sB sC sM
   have hbr:cE wr wr:=cE.refl _
   have gM:¬w.heap.size=wr.heap.size:=aB
   by_cases h1:m<x6.length
   ·
    have hd:decide ((m:Int)<(x6.length:Int))=true:=aX
    obtain⟨b1,o1,hA1,hS1,hl1,hz1,c1x⟩:=qU ahK.out m h1
    subst hA1
    replace c1x:=(uE.box b1 hl1 _).trans c1x
    have amN:=cE.size uE
    unfold maxLen at hz1
    by_cases h2:x6[m].size<=120
    ·
     have hd2:decide ((120:Int)<(x6[m].size:Int))=false:=aD
     go_wp2_with (fail)
     repeat (any_goals (go_quiet (fail);(try go_wp2_with (fail))))
     go_roundw
     case rel=>exact⟨m+1,by go_num,by omega,fun j hj hjm=>by
      by_cases e:j=m
      ·
       subst e;exact h2
      ·
       exact hm.out j hj aB,bl,hide (cG.bel bl hsw.out),bl⟩
     case measure=>simp[intOf];omega
    ·
     have hd2:decide ((120:Int)<(x6[m].size:Int))=true:=aD
     have RR:=hide (Jv (s:=(cv.mk x0 x1 x2 x3 x4 x5 x6 x7 x8 x9 x10 x11 x12)) m h1 (by show 120<x6[m].size;omega))
     exact ov
   have hd:decide ((m:Int)<(x6.length:Int))=false:=aX
   have Hr:=hide (show ∀j (hj:j<x6.length),j<x6.length->x6[j].size<=120 from fun j hj _=>hm.out j hj aB)
   clear hm
   by_cases hk0:0<=x11
   case neg =>
    have RR:=hide (gF (s:=(cv.mk x0 x1 x2 x3 x4 x5 x6 x7 x8 x9 x10 x11 x12)) (by rw[gX,aq (show ¬(0<=x11/\x11<=4000) by omega)];simp))
    have dk0:decide (x11<0)=true:=aD
    exact ov
   case pos =>
   have dk0:decide (x11<0)=false:=aD
   by_cases hk1:x11<=4000
   case neg =>
    have RR:=hide (gF (s:=(cv.mk x0 x1 x2 x3 x4 x5 x6 x7 x8 x9 x10 x11 x12)) (by rw[gX,aq (show ¬(0<=x11/\x11<=4000) by omega)];simp))
    have dk1:decide (4000<x11)=true:=aD
    exact ov
   case pos =>
   have dk1:decide (4000<x11)=false:=aD
   by_cases hk2:0<=x10
   case neg =>
    have RR:=hide (gF (s:=(cv.mk x0 x1 x2 x3 x4 x5 x6 x7 x8 x9 x10 x11 x12)) (by rw[gX,aq (show ¬(0<=x10/\x10<=x11) by omega)];simp))
    have dk2:decide (x10<0)=true:=aD
    exact ov
   case pos =>
   have dk2:decide (x10<0)=false:=aD
   by_cases hk3:x10<=x11
   case neg =>
    have RR:=hide (gF (s:=(cv.mk x0 x1 x2 x3 x4 x5 x6 x7 x8 x9 x10 x11 x12)) (by rw[gX,aq (show ¬(0<=x10/\x10<=x11) by omega)];simp))
    have dk3:decide (x11<x10)=true:=aD
    exact ov
   case pos =>
   have dk3:decide (x11<x10)=false:=aD
   by_cases hk4:0<=x12
   case neg =>
    have RR:=hide (gF (s:=(cv.mk x0 x1 x2 x3 x4 x5 x6 x7 x8 x9 x10 x11 x12)) (by rw[gX,aq (show ¬0<=x12 by omega)];simp))
    have dk4:decide (x12<0)=true:=aD
    exact ov
   case pos =>
   have dk4:decide (x12<0)=false:=aD
   have h8r:x1.length<=8:=by have:=HH2.out;rw[Bool.and_eq_true,decide_eq_true_eq]at this;exact this.2
   have HHD:=hide (show headB (cv.mk x0 x1 x2 x3 x4 x5 x6 x7 x8 x9 x10 x11 x12)=true by rw[gX,HH1.out];simp only[Bool.and_eq_true,decide_eq_true_eq];(repeat' apply And.intro) <;> first | rfl | trivial | omega)
   have Sn:=hsw
   cases hg:allB (cv.mk x0 x1 x2 x3 x4 x5 x6 x7 x8 x9 x10 x11 x12) x3
   ·
    have HG:=hide hg
    have RR:=hide (Jx (s:=(cv.mk x0 x1 x2 x3 x4 x5 x6 x7 x8 x9 x10 x11 x12)) hg)
    clear hg
    have fg:=True.intro
    repeat (any_goals ((first | clear fg | go_quiet (fail));(try go_wp2_with (go_at_call 40;refine (gP (cv.mk x0 x1 x2 x3 x4 x5 x6 x7 x8 x9 x10 x11 x12) x3 S S w.heap.size _ _ _ (cG.bel bl Sn.out) (Row.bel bl HR3.out)).mono ?_;rintro e wg ⟨rfl,hbg⟩;rw[HG.out];(have hzg:=hbg.sz;obtain⟨aex,aey,aez,aeA⟩:=hbg.lay (w.heap.size))))))
    all_goals
     go_returns
     exact⟨gG RR.out.symm,bl⟩
   have HG:=hide hg
   clear hg
   have hmm:=@run_makeMap Tryz.prog
   have fg:=True.intro
   repeat (any_goals ((first | clear fg | go_quiet (fail));(try go_wp2_with (go_at_call 40;refine (gP (cv.mk x0 x1 x2 x3 x4 x5 x6 x7 x8 x9 x10 x11 x12) x3 S S w.heap.size _ _ _ (cG.bel bl Sn.out) (Row.bel bl HR3.out)).mono ?_;rintro e wg ⟨rfl,hbg⟩;rw[HG.out];(have hzg:=hbg.sz;obtain⟨aex,aey,aez,aeA⟩:=hbg.lay (w.heap.size))))))
   clear hmm
   have HSG:=hide (cG.bel (show cE wr wg from bl) hsw.out)
   have hzg:=HSG.out.1
   have ahL:cE w wg:=bl
   have ahM:cE wr wg:=bl
   have ahN:=HR2
   go_loopw [129] (fun v wr3=>∃m:Nat,∃D:DataW Unit,v=.int .i64 m/\m<=x2.length/\Hid (∀j (hj:j<x2.length),j<m->dx (cv.mk x0 x1 x2 x3 x4 x5 x6 x7 x8 x9 x10 x11 x12) x2[j]=true/\∀k (hk:k<j),x2[j].gK=0\/(x2[k]' aB).gK≠x2[j].gK)/\Hid (wr3.ownsMap Tryz.prog 3 (plainElem Tryz.prog 4) wg.heap.size m D)/\Hid (Seen x2 m D)/\cE wg wr3/\wg.heap.size<wr3.heap.size) (fun v _=>x2.length - (intOf v).toNat)
   case atStart=>exact⟨0,.map [],rfl,by omega,fun j _ hj=>by omega,World.ownsMap_made _ _ _ _,Seen.zero _,bl,by simp⟩
   case round =>
    obtain⟨m,D,rfl,m1,hm,hown,Qq,ZV,hz3⟩:=hrel
    have hbw3:cE w wr:=cE.trans ahL ZV
    have hsw:=hide (cG.bel ZV HSG.out)
    have Tq:=cE.trans ahM ZV
    have amP:=cE.size Tq
    have hqz:=hsw.out.1
    obtain⟨A0,c0,A1,c1,A2,c2,A3,c3,A6,c6,A7,c7,A8,c8,Hq,e0,e1,e2,e3,e4,e5,e6,e7,e8,e9,e10,e11,e12,y0,y1,y2,y3,y4,y5,y6,y7,y8,sB,sC,sM⟩:=cG.cells hsw.out
    clear Hq y0 y1 y2 y3 y4 y5 y6 y7 y8 sB sC sM
    have hbr:cE wr wr:=cE.refl _
    have gM:¬w.heap.size=wr.heap.size:=aB
    by_cases h1:m<x2.length
    ·
     have hd:decide ((m:Int)<(x2.length:Int))=true:=aX
     (obtain⟨b1,o1,cH,cM,cN,cO,cP,mw,jr,jR,jI,hA1,hS1,hl1,hx1,hv1,eY,eG,fa,dY,er,db,de,dq,dy,dz⟩:=cz.at ahN.out m h1;subst hA1;have jh:=hide (Dat.cC.bel Tq hv1);have hh1:=Tq.box b1 hl1;have hw1:=ak hl1 (cE.size Tq);replace db:=(hh1 _).trans db;replace de:=(hh1 _).trans de;replace dq:=(hh1 _).trans dq;replace dy:=(hh1 _).trans dy;replace dz:=(hh1 _).trans dz;have gv:=hide hx1;have fJ:=hide dY;have jq:=hide er;clear hh1 hv1 hx1 hS1 dY er)
     have hne1:¬b1=wr.heap.size:=aB
     have hlk:=fJ.out.1
     have hlm:=fJ.out.2.1
     have ahE:=jq.out.1
     have ahF:=jq.out.2.1
     have HSX:=hsw
     have ZW:=hide (show x2[m].gK=cN by rw[gv.out];rfl)
     cases ho:dx (cv.mk x0 x1 x2 x3 x4 x5 x6 x7 x8 x9 x10 x11 x12) x2[m]
     ·
      have HO:=hide ho
      have RR:=hide (DI (s:=(cv.mk x0 x1 x2 x3 x4 x5 x6 x7 x8 x9 x10 x11 x12)) m h1 ho)
      clear ho
      have fg:=True.intro
      repeat (any_goals ((first | clear fg | go_quiet (fail));(try go_wp2_with (go_at_call 41;refine (qc (cv.mk x0 x1 x2 x3 x4 x5 x6 x7 x8 x9 x10 x11 x12) x2[m] S S w.heap.size _ _ (cG.bel bl HSX.out) (Dat.cC.bel bl jh.out)).mono ?_;rintro e wo ⟨rfl,uE⟩;rw[HO.out];(have Sl:=uE.sz;obtain⟨FA,FB,FC,FD⟩:=uE.lay (w.heap.size);obtain⟨FE,FG,FH,FI⟩:=uE.lay (wr.heap.size);obtain⟨Qr,Qs,Qt,Qu⟩:=uE.lay (b1))))))
      all_goals
       go_returns
       exact⟨gG RR.out.symm,bl⟩
     have HO:=hide ho
     clear ho
     have hwk:=Cz fa
     have HK:=hide (keyOf_int_mk (P:=Tryz.prog) Tryz.underlying3 hwk)
     by_cases hs0:cN=0
     ·
      have fs:(cN != 0)=false:=by simp[hs0]
      have ZX:=hide (ZW.out.trans hs0)
      clear hs0
      have fg:=True.intro
      repeat (any_goals ((first | clear fg | go_quiet (fail));(try go_wp2_with (go_at_call 41;refine (qc (cv.mk x0 x1 x2 x3 x4 x5 x6 x7 x8 x9 x10 x11 x12) x2[m] S S w.heap.size _ _ (cG.bel bl HSX.out) (Dat.cC.bel bl jh.out)).mono ?_;rintro e wo ⟨rfl,uE⟩;rw[HO.out];(have Sl:=uE.sz;obtain⟨FA,FB,FC,FD⟩:=uE.lay (w.heap.size);obtain⟨FE,FG,FH,FI⟩:=uE.lay (wr.heap.size);obtain⟨Qr,Qs,Qt,Qu⟩:=uE.lay (b1))))))
      have Sl:=uE.size
      simp only[World.size_alloc]at Sl
      go_roundw
      case rel=>exact⟨m+1,_,by go_num,by omega,fun j hj hjm=>by
       by_cases e:j=m
       ·
        subst e;exact⟨HO.out,fun k hk=>Or.inl ZX.out⟩
       ·
        exact hm.out j hj aB,(og hown.out bl).mono aB,Qq.out.skip h1 ZX.out,bl,by omega⟩
      case measure=>simp[intOf];omega
     ·
      have fs:(cN != 0)=true:=by simp[hs0]
      have HNZ:=hide (show x2[m].gK≠0 by rw[ZW.out];exact hs0)
      clear hs0
      have HAT:=hide (Qq.out.2 cN fa)
      have HSA:=hide (Qn (l:=x2) (m:=m) (n:=cN) (by rw[<-ZW.out];exact HNZ.out))
      generalize hcb:((x2.take m).any fun o=>decide (o.gK=cN)&&decide (cN≠0))=cb at HAT HSA
      clear hcb
      cases cb
      ·
       go_wp2_with (first | (go_at_call 41;refine (qc (cv.mk x0 x1 x2 x3 x4 x5 x6 x7 x8 x9 x10 x11 x12) x2[m] S S w.heap.size _ _ (cG.bel bl HSX.out) (Dat.cC.bel bl jh.out)).mono ?_;rintro e wo ⟨rfl,uE⟩;rw[HO.out];(have Sl:=uE.sz;obtain⟨FA,FB,FC,FD⟩:=uE.lay (w.heap.size);obtain⟨FE,FG,FH,FI⟩:=uE.lay (wr.heap.size);obtain⟨Qr,Qs,Qt,Qu⟩:=uE.lay (b1))) | ((at_lookup;refine mR _ rfl _ _ 79 rfl 3 4 DW Tryz.underlying79 Tryz.underlying4 (FM _) wg.heap.size m D rfl (og hown.out bl) _ _ rfl HK.out ?_;intro c hat);obtain rfl:c=false:=(by have:=HAT.out.symm.trans hat;simpa using this.symm);clear hat) | (at_mapUpdate;refine wpList_mapUpdate_own _ rfl _ _ _ 79 rfl 3 4 DW Tryz.underlying79 _ wg.heap.size m D rfl (og hown.out bl) aV _ _ _ rfl rfl HK.out _ [] (plainElem_bool Tryz.underlying4 true) ?_;intro w1 hown1 hgrow1))
       have Gy:cE wg w1:=Below.grown (show cE wg wo from bl) hgrow1 (by have:=uE.size;simp at this |-;omega) (fun x hx=>by cases hx;exact Nat.le_refl _)
       have Sl:=uE.size
       simp only[World.size_alloc]at Sl
       have BB:=hgrow1.size
       go_roundw
       case rel=>exact⟨m+1,_,by go_num,by omega,fun j hj hjm=>by
        by_cases e:j=m
        ·
         subst e;exact⟨HO.out,fun k hk=>Or.inr (fun e=>absurd (HSA.out.2 ⟨k,by omega,hk,e.trans ZW.out⟩) aK)⟩
        ·
         exact hm.out j hj aB,hown1,(by have:=Qq.out.put h1 HNZ.out (by rw[ZW.out];exact fa);rw[ZW.out]at this;exact this),Gy,by omega⟩
       case measure=>simp[intOf];omega
      ·
       obtain⟨k,hk1,hk2,hk3⟩:=HSA.out.1 rfl
       have RR:=hide (Jw (s:=(cv.mk x0 x1 x2 x3 x4 x5 x6 x7 x8 x9 x10 x11 x12)) (Qj m k (by simpa[cv.jz]using h1) hk2 (by simp only[cv.jz,List.getElem_map];exact HNZ.out) (by simp only[cv.jz,List.getElem_map];rw[ZW.out];exact hk3)))
       clear hk1 hk2 hk3
       have fg:=True.intro
       repeat (any_goals ((first | clear fg | go_quiet (fail));(try go_wp2_with (first | (go_at_call 41;refine (qc (cv.mk x0 x1 x2 x3 x4 x5 x6 x7 x8 x9 x10 x11 x12) x2[m] S S w.heap.size _ _ (cG.bel bl HSX.out) (Dat.cC.bel bl jh.out)).mono ?_;rintro e wo ⟨rfl,uE⟩;rw[HO.out];(have Sl:=uE.sz;obtain⟨FA,FB,FC,FD⟩:=uE.lay (w.heap.size);obtain⟨FE,FG,FH,FI⟩:=uE.lay (wr.heap.size);obtain⟨Qr,Qs,Qt,Qu⟩:=uE.lay (b1))) | ((at_lookup;refine mR _ rfl _ _ 79 rfl 3 4 DW Tryz.underlying79 Tryz.underlying4 (FM _) wg.heap.size m D rfl (og hown.out bl) _ _ rfl HK.out ?_;intro c hat);obtain rfl:c=true:=(by have:=HAT.out.symm.trans hat;simpa using this.symm);clear hat) | (at_mapUpdate;refine wpList_mapUpdate_own _ rfl _ _ _ 79 rfl 3 4 DW Tryz.underlying79 _ wg.heap.size m D rfl (og hown.out bl) aV _ _ _ rfl rfl HK.out _ [] (plainElem_bool Tryz.underlying4 true) ?_;intro w1 hown1 hgrow1)))))
       all_goals
        go_returns
        exact⟨gG RR.out.symm,bl⟩
    ·
     have hd:decide ((m:Int)<(x2.length:Int))=false:=aX
     have RR:=hide (Jy (s:=(cv.mk x0 x1 x2 x3 x4 x5 x6 x7 x8 x9 x10 x11 x12)) HHD.out (fun j hj=>by have:=HH2.out;rw[Bool.and_eq_true]at this;exact List.all_eq_true.1 this.1 _ (List.getElem_mem hj)) (fun j hj=>Hr.out j hj hj) (fun j hj=>Hs.out j hj hj) (fun j hj=>(hm.out j hj (ak hj (by show x2.length<=m;omega))).1) (Ql fun a ha b hb=>by simp only[List.getElem_map];exact (hm.out a b8 (ak b8 aB)).2 b hb) HG.out)
     go_wp2_with (fail)
     repeat (any_goals (go_quiet (fail);(try go_wp2_with (fail))))
     all_goals
      go_returns
      exact⟨gG RR.out.symm,bl⟩
end Go.Proofs.YtjngkknbpfgdcaaGreatDoor
