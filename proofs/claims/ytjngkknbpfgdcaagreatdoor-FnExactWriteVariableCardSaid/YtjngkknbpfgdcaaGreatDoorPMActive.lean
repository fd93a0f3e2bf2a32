import Derived.Test.YtjngkknbpfgdcaaGreatDoorPTV
import Derived.Test.YtjngkknbpfgdcaaGreatDoorPOw
import Derived.Deep.RegionHeld3
set_option linter.unusedVariables false
set_option linter.unusedSimpArgs false
set_option maxRecDepth 100000
set_option maxHeartbeats 8000000
namespace Go.Proofs.YtjngkknbpfgdcaaGreatDoor
open Go.RowKit
theorem cJ.gV {w:World} {L:List Nat} {x0:Int} {x1:Int} {vs:List Value} (h:Dat.dB w L (cJ.mk x0 x1).D vs):L=[]/\vs=[.int .i64 x0,.int .i64 x1]/\fD x0/\fD x1:=by
 rw[cJ.fU]at h
 have hl:=h.length
 match vs,hl,h with
 | [u0,u1],_,h =>
 simp only[Dat.dB]at h
 obtain⟨M0,N0,e0,h0,M1,N1,e1,h1,en⟩:=h
 subst en
 subst e1
 subst e0
 obtain⟨rfl,rfl,g0⟩:=Dat.fh.1 h0
 obtain⟨rfl,rfl,g1⟩:=Dat.fh.1 h1
 exact⟨by simp only[List.nil_append,List.append_nil],by simp only[aj],g0,g1⟩
theorem cJ.jQ {w:World} {x0:Int} {x1:Int} (h0:fD x0) (h1:fD x1):Dat.dB w ([]) (cJ.mk x0 x1).D [.int .i64 x0,.int .i64 x1]:=by
 rw[cJ.fU]
 exact⟨[],_,(List.nil_append _).symm,Dat.fh.2 ⟨rfl,rfl,h0⟩,⟨[],_,(List.nil_append _).symm,Dat.fh.2 ⟨rfl,rfl,h1⟩,rfl⟩⟩
def Cn (t:cJ):Prop:=∀(S:Nat->Prop) (w:World) (vs:List Value),Dat.cC w S t.D vs->Dat.mg t.D<=1048576 ->
 Calls Tryz.prog 113 #[.agg vs.toArray] w (zW w t.D)
theorem BG (ks:List cJ) (IH:∀(i:Nat) (hi:i<ks.length),Cn ks[i]) (S:Nat->Prop) (w:World) (A:Option Addr) (c:Nat) (hR:Row w S 2 A c (ks.map cJ.D)) (hwt:ks.length+Dat.jE (ks.map cJ.D)<=1048576) :
    Calls Tryz.prog 56 #[.slice A ks.length c] w (rL w 2 (ks.map cJ.D)):=by
  have uN:=hide IH
  have HR:=hide hR
  have hlen:=hR.1
  have hcm:=hR.2.1
  simp only[aj]at hlen
  unfold maxLen at hcm
  clear IH hR
  obtain⟨cur,mL,hmk⟩:=kZ (P:=Tryz.prog) (t:=28) (e:=76) (k:=2) ks.length aB Tryz.underlying28 aC
  have HC:=hide mL
  clear mL
  have HW:=hide hwt
  clear hwt
  go_enter Tryz.func56,Tryz.ntmps56
  go_wp2_with (fail)
  have HF:=hide (ez.start w 76 2 ks.length HC.out)
  clear hmk
  go_loopw [4] (fun iv wr=>∃k:Nat,k<=ks.length/\iv=.int .i64 k/\ez wr w.heap.size 76 2 ks.length ((ks.map cJ.D).take k)/\cE w wr) (fun iv _=>ks.length - (intOf iv).toNat)
  case atStart=>exact⟨0,Nat.zero_le _,rfl,HF.out,bl⟩
  case round =>
    obtain⟨k,hk,rfl,hF,hbw⟩:=hrel
    have lO:=hide hF
    have hgl:=hF.lt
    clear hF HF
    rcases Nat.lt_or_ge k ks.length with hlt | hge
    . have hd:decide ((k:Int)<(ks.length:Int))=true:=by simp;omega
      have hi0:0<=(k:Int):=aB
      have hi1:(k:Int)<(ks.length:Int):=aB
      (obtain⟨b1,o1,cH,cM,hA1,hS1,hl1,hx1,hv1,eY,eG,db,de⟩:=cJ.at HR.out k hlt;subst hA1;have jh:=hide (Dat.cC.bel hbw hv1);have hh1:=hbw.box b1 hl1;have hw1:=ak hl1 (cE.size hbw);replace db:=(hh1 _).trans db;replace de:=(hh1 _).trans de;have gv:=hide hx1;clear hh1 hv1 hx1 hS1)
      have hw:=hide (Dat.jZ (ks.map cJ.D) k aN)
      have hw':=hide (Dat.ng (ks.map cJ.D) (k+1))
      have hwk:Dat.mg ks[k].D<=1048576:=by have a:=hw.out;have b:=hw'.out;have c:=HW.out;rw[List.getElem_map]at a;omega
      go_wp2_with (fail)
      refine (uN.out k hlt S _ _ (Dat.cC.bel bl jh.out) hwk).mono ?_
      rintro e w1 ⟨vs',L',rfl,hv',hnd',zX,hb1⟩
      have HN':=hide hnd'
      have Zj:=hide zX
      clear hnd' zX
      have GO:=hide hv'
      rw[gv.out]at hv'
      obtain⟨rfl,-⟩:=cJ.vals (Dat.dB.vals (S:=fun _=>True) (fun _ _=>trivial) hv')
      clear hv'
      obtain⟨y0,e0⟩:=(ez.bel lO.out (show cE _ w1 from bl)).cell (i:=k*2) aB
      obtain⟨y1,e1⟩:=(ez.bel lO.out (show cE _ w1 from bl)).cell (i:=k*2+1) aB
      have f0:=(ez.bel lO.out (show cE _ w1 from bl)).free (k*2)
      have f1:=(ez.bel lO.out (show cE _ w1 from bl)).free (k*2+1)
      go_wp2_with (fail)
      go_roundw
      case rel =>
       exact⟨k+1,by omega,by go_num,ez.MH lO.out hlt rfl bl (Dat.dB.bel bl GO.out) HN'.out (fun b hb=>Zj.out b hb),bl⟩
      case measure=>simp[intOf];omega
    . have hd:decide ((k:Int)<(ks.length:Int))=false:=by simp;omega
      go_wp2_with (fail)
      go_returns
      obtain⟨L,q1,q2,q3⟩:=ez.done lO.out hge rfl aV
      exact⟨some ⟨w.heap.size,0,none⟩,ks.length,L,by rw[aj];rfl,q1,q2,q3,hbw⟩
theorem BH:∀t:cJ,Cn t:=by
 rintro⟨x0,x1⟩
 intro S w vs hv hwt
 obtain⟨rfl,g0,g1⟩:=cJ.vals hv
 rw[cJ.fU]at hwt
 simp only[Dat.mg,Dat.wt,aj]at hwt
 clear hv hwt 
 go_enter Tryz.func113,Tryz.ntmps113
 go_wp2_with (fail)
 exact bodyPost_ret (v:=.agg #[.int .i64 x0,.int .i64 x1]) (by simp[results,Tryz.results113,go_sem]) rfl
  ⟨[.int .i64 x0,.int .i64 x1],[],rfl,cJ.jQ g0 g1,List.nodup_nil,fun b hb=>by simp at hb,bl⟩
theorem zY (ks:List cJ) (S:Nat->Prop) (w:World) (A:Option Addr) (c:Nat) (hR:Row w S 2 A c (ks.map cJ.D)) (hwt:ks.length+Dat.jE (ks.map cJ.D)<=1048576) :
  Calls Tryz.prog 56 #[.slice A ks.length c] w (rL w 2 (ks.map cJ.D)):=BG ks (fun _ _=>BH _) S w A c hR hwt
theorem cJ.jS {x0:Int} {x1:Int}:Dat.mF (cJ.mk x0 x1).D=2:=by
 simp only[cJ.fU,Dat.mF,Dat.cnt];(try omega)
theorem cJ.mM {w:World} {m:Int} {x0:Int} {x1:Int} (h0:0<=m) (hm:m+(2:Nat)<=4611686018427387904):Dat.dB w ([]) (Dat.ij m (cJ.mk x0 x1).D) [.int .i64 (m),.int .i64 (m+1)]:=by
 have e:Dat.ij m (cJ.mk x0 x1).D=[.int (m),.int (m+1)]:=by
  simp only[cJ.fU,Dat.ij,Dat.mark,Dat.cnt]
  first | done | rfl | (simp only[Nat.jJ];done) | (simp;done) | (push_cast;simp)
 rw[e]
 exact⟨[],_,(List.nil_append _).symm,Dat.fh.2 ⟨rfl,rfl,fD.of_le aB aB⟩,⟨[],_,(List.nil_append _).symm,Dat.fh.2 ⟨rfl,rfl,fD.of_le aB aB⟩,rfl⟩⟩
theorem cJ.oA:∀t:cJ,Dat.mF t.D<=16+16*Dat.mg t.D:=by
 rintro⟨x0,x1⟩
 rw[cJ.jS,cJ.fU]
 simp only[Dat.mg,Dat.wt,aj]
 omega
theorem cJ.lD {w:World} {S:Nat->Prop} {m:Int} {x0:Int} {x1:Int} {vs:List Value} (h:Dat.cC w S (Dat.ij m (cJ.mk x0 x1).D) vs):vs=[.int .i64 (m),.int .i64 (m+1)]:=by
 have e:Dat.ij m (cJ.mk x0 x1).D=[.int (m),.int (m+1)]:=by
  simp only[cJ.fU,Dat.ij,Dat.mark,Dat.cnt]
  first | done | rfl | (simp only[Nat.jJ];done) | (simp;done) | (push_cast;simp)
 rw[e]at h
 match vs,h with
 | [u0,u1],h =>
 simp only[Dat.cC]at h
 obtain⟨h0,h1,-⟩:=h
 obtain⟨rfl,-⟩:=Dat.dA.1 h0
 obtain⟨rfl,-⟩:=Dat.dA.1 h1
 exact rfl
theorem zu (ks:List cJ) (L:List Nat) (w:World) (A:Option Addr) (c:Nat) (k:Int) (hR:cL w L 2 A c (ks.map cJ.D)) (hnd:L.Nodup) (h0:0<=k) (hb:k+(Dat.eh (ks.map cJ.D):Nat)<=4611686018427387904) :
    Calls Tryz.prog 67 #[.slice A ks.length c,.int .i64 k] w (zZ w L 2 A c k (ks.map cJ.D)):=by
  have HR:=hide hR
  have HN:=hide hnd
  have hlen:=hR.1
  have hcm:=hR.2.1
  simp only[aj]at hlen
  unfold maxLen at hcm
  clear hR hnd
  go_enter Tryz.func67,Tryz.ntmps67
  go_wp2_with (fail)
  go_loopw [1,5] (fun kv iv wr=>∃i:Nat,i<=ks.length/\iv=.int .i64 i/\kv=.int .i64 (k+(Dat.eh ((ks.map cJ.D).take i):Nat))/\Hid (cL wr L 2 A c (Dat.lz k i (ks.map cJ.D)))/\dP (fun x=>x∉L) w wr) (fun _ iv _=>ks.length - (intOf iv).toNat)
  case atStart=>exact⟨0,Nat.zero_le _,rfl,by simp[Dat.eh],bP,lL⟩
  case round =>
    obtain⟨i,hi,rfl,rfl,hO,hoff⟩:=hrel
    rcases Nat.lt_or_ge i ks.length with hlt | hge
    . have hd:decide ((i:Int)<(ks.length:Int))=true:=by simp;omega
      have hi0:0<=(i:Int):=aB
      have hi1:(i:Int)<(ks.length:Int):=aB
      obtain⟨x0,x1,hx⟩:∃x0 x1,ks[i]=.mk x0 x1:=by cases ks[i];exact⟨_,_,rfl⟩
      have HX:=hide hx
      have ht:=Dat.j3 (ks.map cJ.D) i aN
      have hle:=Dat.mN (ks.map cJ.D) (i+1)
      simp only[List.getElem_map,hx,cJ.jS]at ht
      obtain⟨m,hm⟩:∃m:Int,k+(Dat.eh ((ks.map cJ.D).take i):Nat)=m:=⟨_,rfl⟩
      have hm0:0<=m:=aB
      have hm1:m+2<=4611686018427387904:=aB
      have HE:=hide (show k+(Dat.eh ((ks.map cJ.D).take (i+1)):Nat)=m+2 by omega)
      rw[hm]
      have HM:=hide hm
      obtain⟨b,o,L1,Le,L2,vs,rfl,hb1,hf1,Du,hv,hvl,hc,hput⟩:=cL.at hO.out i bD
      rw[Dat.o0 k i _ aN,List.getElem_map,hx]at hv
      obtain⟨IP,rfl,g0,g1⟩:=cJ.gV hv
      have Dv:=IP.symm
      clear IP
      subst Dv
      have z0:wr.cell? ⟨b,o+i*2,none⟩=some (.int .i64 x0):=by simpa using hc 0 aF
      have z1:wr.cell? ⟨b,o+i*2+1,none⟩=some (.int .i64 x1):=by simpa using hc 1 aF
      obtain⟨hbL,xi,GP,xj,hrest⟩:=qS Du HN.out
      have HP:=hide hput
      have HLe:=hide Du
      have HL2:=hide xi
      have Dw:=hide hrest
      clear hv hc hx ht hle hm xj hput Du xi hrest
      go_wp2_with (fail)
      go_roundw
      case rel =>
       refine⟨i+1,by omega,by go_num,by rw[HE.out];first | done | go_num,?_,lL⟩
       rw[<-Dat.nS k i _ aN]
       refine hide ?_
       rw[List.getElem_map,HX.out,HM.out]
       refine HP.out _ _ [.int .i64 (m),.int .i64 (m+1)] (cJ.mM (m:=m) (x0:=x0) (x1:=x1) hm0 aB) rfl aR (fun z hz=>?_) (fun z=>by simp[go_sem,hf1]) (fun z hz=>?_) (JV (by simp[go_sem,z0,z1]) (by simp[go_sem,z0,z1]))
       . exact dP.same (S:=fun x=>x∉([])/\x≠b) (w:=wr) lL z ⟨(Dw.out z hz).1,(Dw.out z hz).2.1⟩ (hO.out.lt z (Dw.out z hz).2.2)
       . have n0:z≠o+i*2:=by omega
         have n1:z≠o+i*2+1:=aB
         simp[go_sem,n0,n1]
      case measure=>simp[intOf];omega
    . have hd:decide ((i:Int)<(ks.length:Int))=false:=by simp;omega
      obtain rfl:i=ks.length:=by omega
      have SS:=hide (show cL wr L 2 A c (Dat.gC k (ks.map cJ.D))from by have:=hO.out;rw[Dat.o6 _ _ _ aK]at this;exact this)
      go_wp2_with (fail)
      go_returns
      rw[List.take_of_length_le aK]
      exact⟨rfl,SS.out,hoff⟩
theorem zw (ks:List cJ) (S:Nat->Prop) (w:World) (A:Option Addr) (c:Nat) (k:Int) (hR:Row w S 2 A c (Dat.gC k (ks.map cJ.D))) (h0:0<=k) (hb:k+(Dat.eh (ks.map cJ.D):Nat)<=4611686018427387904) :
  Calls Tryz.prog 72 #[.slice A ks.length c,.int .i64 k] w fun e w'=>e=.returned (.int .i64 (k+(Dat.eh (ks.map cJ.D):Nat)))/\cE w w':=by
 have HR:=hide hR
 have hlen:=hR.1
 have hcm:=hR.2.1
 simp only[Dat.fP,aj]at hlen
 unfold maxLen at hcm
 clear hR
 go_enter Tryz.func72,Tryz.ntmps72
 go_wp2_with (fail)
 go_loopw [1,5] (fun kv iv wr=>∃i:Nat,i<=ks.length/\iv=.int .i64 i/\kv=.int .i64 (k+(Dat.eh ((ks.map cJ.D).take i):Nat))/\cE w wr) (fun _ iv _=>ks.length - (intOf iv).toNat)
 case atStart=>exact⟨0,Nat.zero_le _,rfl,by simp[Dat.eh],bl⟩
 case round =>
  obtain⟨i,hi,rfl,rfl,hbw⟩:=hrel
  rcases Nat.lt_or_ge i ks.length with hlt | hge
  ·
   have hd:decide ((i:Int)<(ks.length:Int))=true:=aD
   have hi0:0<=(i:Int):=aB
   have hi1:(i:Int)<(ks.length:Int):=aB
   obtain⟨x0,x1,hx⟩:∃x0 x1,ks[i]=.mk x0 x1:=by cases ks[i];exact⟨_,_,rfl⟩
   have HX:=hide hx
   have ht:=Dat.j3 (ks.map cJ.D) i aN
   have hle:=Dat.mN (ks.map cJ.D) (i+1)
   simp only[List.getElem_map,hx,cJ.jS]at ht
   obtain⟨m,hm⟩:∃m:Int,k+(Dat.eh ((ks.map cJ.D).take i):Nat)=m:=⟨_,rfl⟩
   have hm0:0<=m:=aB
   have hm1:m+2<=4611686018427387904:=aB
   have HE:=hide (show k+(Dat.eh ((ks.map cJ.D).take (i+1)):Nat)=m+2 by omega)
   rw[hm]
   have HM:=hide hm
   obtain⟨b,o,vs,rfl,-,hb1,hv,hvl,hc⟩:=Row.at HR.out i bJ
   rw[Dat.oK _ k i aN,List.getElem_map,hx,hm]at hv
   obtain rfl:=cJ.lD hv
   have z0:wr.cell? ⟨b,o+i*2,none⟩=some (.int .i64 (m)):=by rw[hbw.box b hb1];simpa using hc 0 aF
   have z1:wr.cell? ⟨b,o+i*2+1,none⟩=some (.int .i64 (m+1)):=by rw[hbw.box b hb1];simpa using hc 1 aF
   have hblt:b<wr.heap.size:=ak hb1 hbw.size
   clear hv hc hx ht hle hm
   go_wp2_with (fail)
   all_goals
    go_roundw
    case rel=>exact⟨i+1,by omega,by go_num,bB,bl⟩
    case measure=>simp[intOf];omega
  ·
   have hd:decide ((i:Int)<(ks.length:Int))=false:=aD
   obtain rfl:i=ks.length:=by omega
   go_wp2_with (fail)
   go_returns
   rw[List.take_of_length_le aK]
   exact⟨rfl,hbw⟩
theorem cw.gV {w:World} {L:List Nat} {x0:Int} {x1:Int} {x2:Int} {x3:ByteArray} {x4:Int} {x5:Int} {vs:List Value} (h:Dat.dB w L (cw.mk x0 x1 x2 x3 x4 x5).D vs):L=[]/\vs=[.int .i64 x0,.int .i64 x1,.int .i64 x2,.string x3,.int .i64 x4,.int .i64 x5]/\fD x0/\fD x1/\fD x2/\x3.size<=maxLen/\fD x4/\fD x5:=by
 rw[cw.fU]at h
 have hl:=h.length
 match vs,hl,h with
 | [u0,u1,u2,u3,u4,u5],_,h =>
 simp only[Dat.dB]at h
 obtain⟨M0,N0,e0,h0,M1,N1,e1,h1,M2,N2,e2,h2,M3,N3,e3,h3,M4,N4,e4,h4,M5,N5,e5,h5,en⟩:=h
 subst en
 subst e5
 subst e4
 subst e3
 subst e2
 subst e1
 subst e0
 obtain⟨rfl,rfl,g0⟩:=Dat.fh.1 h0
 obtain⟨rfl,rfl,g1⟩:=Dat.fh.1 h1
 obtain⟨rfl,rfl,g2⟩:=Dat.fh.1 h2
 obtain⟨rfl,rfl,g3⟩:=Dat.lE.1 h3
 obtain⟨rfl,rfl,g4⟩:=Dat.fh.1 h4
 obtain⟨rfl,rfl,g5⟩:=Dat.fh.1 h5
 exact⟨by simp only[List.nil_append,List.append_nil],by simp only[aj],g0,g1,g2,g3,g4,g5⟩
theorem cw.jQ {w:World} {x0:Int} {x1:Int} {x2:Int} {x3:ByteArray} {x4:Int} {x5:Int} (h0:fD x0) (h1:fD x1) (h2:fD x2) (h3:x3.size<=maxLen) (h4:fD x4) (h5:fD x5):Dat.dB w ([]) (cw.mk x0 x1 x2 x3 x4 x5).D [.int .i64 x0,.int .i64 x1,.int .i64 x2,.string x3,.int .i64 x4,.int .i64 x5]:=by
 rw[cw.fU]
 exact⟨[],_,(List.nil_append _).symm,Dat.fh.2 ⟨rfl,rfl,h0⟩,⟨[],_,(List.nil_append _).symm,Dat.fh.2 ⟨rfl,rfl,h1⟩,⟨[],_,(List.nil_append _).symm,Dat.fh.2 ⟨rfl,rfl,h2⟩,⟨[],_,(List.nil_append _).symm,Dat.lE.2 ⟨rfl,rfl,h3⟩,⟨[],_,(List.nil_append _).symm,Dat.fh.2 ⟨rfl,rfl,h4⟩,⟨[],_,(List.nil_append _).symm,Dat.fh.2 ⟨rfl,rfl,h5⟩,rfl⟩⟩⟩⟩⟩⟩
def EE (t:cw):Prop:=∀(S:Nat->Prop) (w:World) (vs:List Value),Dat.cC w S t.D vs->Dat.mg t.D<=1048576 ->
 Calls Tryz.prog 18 #[.agg vs.toArray] w (zW w t.D)
theorem Dx (ks:List cw) (IH:∀(i:Nat) (hi:i<ks.length),EE ks[i]) (S:Nat->Prop) (w:World) (A:Option Addr) (c:Nat) (hR:Row w S 6 A c (ks.map cw.D)) (hwt:ks.length+Dat.jE (ks.map cw.D)<=1048576) :
    Calls Tryz.prog 55 #[.slice A ks.length c] w (rL w 6 (ks.map cw.D)):=by
  have uN:=hide IH
  have HR:=hide hR
  have hlen:=hR.1
  have hcm:=hR.2.1
  simp only[aj]at hlen
  unfold maxLen at hcm
  clear IH hR
  obtain⟨cur,mL,hmk⟩:=kZ (P:=Tryz.prog) (t:=27) (e:=34) (k:=6) ks.length aB Tryz.underlying27 aC
  have HC:=hide mL
  clear mL
  have HW:=hide hwt
  clear hwt
  go_enter Tryz.func55,Tryz.ntmps55
  go_wp2_with (fail)
  have HF:=hide (ez.start w 34 6 ks.length HC.out)
  clear hmk
  go_loopw [4] (fun iv wr=>∃k:Nat,k<=ks.length/\iv=.int .i64 k/\ez wr w.heap.size 34 6 ks.length ((ks.map cw.D).take k)/\cE w wr) (fun iv _=>ks.length - (intOf iv).toNat)
  case atStart=>exact⟨0,Nat.zero_le _,rfl,HF.out,bl⟩
  case round =>
    obtain⟨k,hk,rfl,hF,hbw⟩:=hrel
    have lO:=hide hF
    have hgl:=hF.lt
    clear hF HF
    rcases Nat.lt_or_ge k ks.length with hlt | hge
    . have hd:decide ((k:Int)<(ks.length:Int))=true:=by simp;omega
      have hi0:0<=(k:Int):=aB
      have hi1:(k:Int)<(ks.length:Int):=aB
      (obtain⟨b1,o1,cH,cM,cN,cO,cP,dn,hA1,hS1,hl1,hx1,hv1,eY,eG,fa,dY,er,gw,db,de,dq,dy,dz,dU⟩:=cw.at HR.out k hlt;subst hA1;have jh:=hide (Dat.cC.bel hbw hv1);have hh1:=hbw.box b1 hl1;have hw1:=ak hl1 (cE.size hbw);replace db:=(hh1 _).trans db;replace de:=(hh1 _).trans de;replace dq:=(hh1 _).trans dq;replace dy:=(hh1 _).trans dy;replace dz:=(hh1 _).trans dz;replace dU:=(hh1 _).trans dU;have gv:=hide hx1;clear hh1 hv1 hx1 hS1)
      have hw:=hide (Dat.jZ (ks.map cw.D) k aN)
      have hw':=hide (Dat.ng (ks.map cw.D) (k+1))
      have hwk:Dat.mg ks[k].D<=1048576:=by have a:=hw.out;have b:=hw'.out;have c:=HW.out;rw[List.getElem_map]at a;omega
      go_wp2_with (fail)
      refine (uN.out k hlt S _ _ (Dat.cC.bel bl jh.out) hwk).mono ?_
      rintro e w1 ⟨vs',L',rfl,hv',hnd',zX,hb1⟩
      have HN':=hide hnd'
      have Zj:=hide zX
      clear hnd' zX
      have GO:=hide hv'
      rw[gv.out]at hv'
      obtain⟨rfl,-⟩:=cw.vals (Dat.dB.vals (S:=fun _=>True) (fun _ _=>trivial) hv')
      clear hv'
      obtain⟨y0,e0⟩:=(ez.bel lO.out (show cE _ w1 from bl)).cell (i:=k*6) aB
      obtain⟨y1,e1⟩:=(ez.bel lO.out (show cE _ w1 from bl)).cell (i:=k*6+1) aB
      obtain⟨y2,e2⟩:=(ez.bel lO.out (show cE _ w1 from bl)).cell (i:=k*6+2) aB
      obtain⟨y3,e3⟩:=(ez.bel lO.out (show cE _ w1 from bl)).cell (i:=k*6+3) aB
      obtain⟨y4,e4⟩:=(ez.bel lO.out (show cE _ w1 from bl)).cell (i:=k*6+4) aB
      obtain⟨y5,e5⟩:=(ez.bel lO.out (show cE _ w1 from bl)).cell (i:=k*6+5) aB
      have f0:=(ez.bel lO.out (show cE _ w1 from bl)).free (k*6)
      have f1:=(ez.bel lO.out (show cE _ w1 from bl)).free (k*6+1)
      have f2:=(ez.bel lO.out (show cE _ w1 from bl)).free (k*6+2)
      have f3:=(ez.bel lO.out (show cE _ w1 from bl)).free (k*6+3)
      have f4:=(ez.bel lO.out (show cE _ w1 from bl)).free (k*6+4)
      have f5:=(ez.bel lO.out (show cE _ w1 from bl)).free (k*6+5)
      go_wp2_with (fail)
      go_roundw
      case rel =>
       exact⟨k+1,by omega,by go_num,ez.MK lO.out hlt rfl bl (Dat.dB.bel bl GO.out) HN'.out (fun b hb=>Zj.out b hb),bl⟩
      case measure=>simp[intOf];omega
    . have hd:decide ((k:Int)<(ks.length:Int))=false:=by simp;omega
      go_wp2_with (fail)
      go_returns
      obtain⟨L,q1,q2,q3⟩:=ez.done lO.out hge rfl aV
      exact⟨some ⟨w.heap.size,0,none⟩,ks.length,L,by rw[aj];rfl,q1,q2,q3,hbw⟩
theorem Dy:∀t:cw,EE t:=by
 rintro⟨x0,x1,x2,x3,x4,x5⟩
 intro S w vs hv hwt
 obtain⟨rfl,g0,g1,g2,g3,g4,g5⟩:=cw.vals hv
 rw[cw.fU]at hwt
 simp only[Dat.mg,Dat.wt,aj]at hwt
 clear hv hwt 
 unfold maxLen at g3
 go_enter Tryz.func18,Tryz.ntmps18
 go_wp2_with (fail)
 refine (yw x4 x5 _).mono ?_
 rintro e w1 ⟨rfl,hb1⟩
 (have hz1:=hb1.sz;obtain⟨eA,fb,fc,fA⟩:=hb1.lay (w.heap.size);obtain⟨ff,fE,fR,fS⟩:=hb1.lay (w.heap.size+1);obtain⟨iM,jx,ko,kp⟩:=hb1.lay (w.heap.size+1+1))
 go_wp2_with (fail)
 exact bodyPost_ret (v:=.agg #[.int .i64 x0,.int .i64 x1,.int .i64 x2,.string x3,.int .i64 x4,.int .i64 x5]) (by simp[results,Tryz.results18,go_sem,ff,fE,iM,jx]) rfl
  ⟨[.int .i64 x0,.int .i64 x1,.int .i64 x2,.string x3,.int .i64 x4,.int .i64 x5],[],rfl,cw.jQ g0 g1 g2 aV g4 g5,List.nodup_nil,fun b hb=>by simp at hb,bl⟩
theorem qj (ks:List cw) (S:Nat->Prop) (w:World) (A:Option Addr) (c:Nat) (hR:Row w S 6 A c (ks.map cw.D)) (hwt:ks.length+Dat.jE (ks.map cw.D)<=1048576) :
  Calls Tryz.prog 55 #[.slice A ks.length c] w (rL w 6 (ks.map cw.D)):=Dx ks (fun _ _=>Dy _) S w A c hR hwt
theorem cw.jS {x0:Int} {x1:Int} {x2:Int} {x3:ByteArray} {x4:Int} {x5:Int}:Dat.mF (cw.mk x0 x1 x2 x3 x4 x5).D=6:=by
 simp only[cw.fU,Dat.mF,Dat.cnt];(try omega)
theorem cw.mM {w:World} {m:Int} {x0:Int} {x1:Int} {x2:Int} {x3:ByteArray} {x4:Int} {x5:Int} (h0:0<=m) (hm:m+(6:Nat)<=4611686018427387904):Dat.dB w ([]) (Dat.ij m (cw.mk x0 x1 x2 x3 x4 x5).D) [.int .i64 (m),.int .i64 (m+1),.int .i64 (m+1+1),.string (markT (m+1+1+1)),.int .i64 (m+1+1+1+1),.int .i64 (m+1+1+1+1+1)]:=by
 have e:Dat.ij m (cw.mk x0 x1 x2 x3 x4 x5).D=[.int (m),.int (m+1),.int (m+1+1),.str (markT (m+1+1+1)),.int (m+1+1+1+1),.int (m+1+1+1+1+1)]:=by
  simp only[cw.fU,Dat.ij,Dat.mark,Dat.cnt]
  first | done | rfl | (simp only[Nat.jJ];done) | (simp;done) | (push_cast;simp)
 rw[e]
 exact⟨[],_,(List.nil_append _).symm,Dat.fh.2 ⟨rfl,rfl,fD.of_le aB aB⟩,⟨[],_,(List.nil_append _).symm,Dat.fh.2 ⟨rfl,rfl,fD.of_le aB aB⟩,⟨[],_,(List.nil_append _).symm,Dat.fh.2 ⟨rfl,rfl,fD.of_le aB aB⟩,⟨[],_,(List.nil_append _).symm,Dat.lE.2 ⟨rfl,rfl,al (wN _) aV⟩,⟨[],_,(List.nil_append _).symm,Dat.fh.2 ⟨rfl,rfl,fD.of_le aB aB⟩,⟨[],_,(List.nil_append _).symm,Dat.fh.2 ⟨rfl,rfl,fD.of_le aB aB⟩,rfl⟩⟩⟩⟩⟩⟩
theorem cw.oA:∀t:cw,Dat.mF t.D<=16+16*Dat.mg t.D:=by
 rintro⟨x0,x1,x2,x3,x4,x5⟩
 rw[cw.jS,cw.fU]
 simp only[Dat.mg,Dat.wt,aj]
 omega
theorem cw.lD {w:World} {S:Nat->Prop} {m:Int} {x0:Int} {x1:Int} {x2:Int} {x3:ByteArray} {x4:Int} {x5:Int} {vs:List Value} (h:Dat.cC w S (Dat.ij m (cw.mk x0 x1 x2 x3 x4 x5).D) vs):vs=[.int .i64 (m),.int .i64 (m+1),.int .i64 (m+1+1),.string (markT (m+1+1+1)),.int .i64 (m+1+1+1+1),.int .i64 (m+1+1+1+1+1)]:=by
 have e:Dat.ij m (cw.mk x0 x1 x2 x3 x4 x5).D=[.int (m),.int (m+1),.int (m+1+1),.str (markT (m+1+1+1)),.int (m+1+1+1+1),.int (m+1+1+1+1+1)]:=by
  simp only[cw.fU,Dat.ij,Dat.mark,Dat.cnt]
  first | done | rfl | (simp only[Nat.jJ];done) | (simp;done) | (push_cast;simp)
 rw[e]at h
 match vs,h with
 | [u0,u1,u2,u3,u4,u5],h =>
 simp only[Dat.cC]at h
 obtain⟨h0,h1,h2,h3,h4,h5,-⟩:=h
 obtain⟨rfl,-⟩:=Dat.dA.1 h0
 obtain⟨rfl,-⟩:=Dat.dA.1 h1
 obtain⟨rfl,-⟩:=Dat.dA.1 h2
 obtain⟨rfl,-⟩:=Dat.gz.1 h3
 obtain⟨rfl,-⟩:=Dat.dA.1 h4
 obtain⟨rfl,-⟩:=Dat.dA.1 h5
 exact rfl
theorem oV (ks:List cw) (L:List Nat) (w:World) (A:Option Addr) (c:Nat) (k:Int) (hR:cL w L 6 A c (ks.map cw.D)) (hnd:L.Nodup) (h0:0<=k) (hb:k+(Dat.eh (ks.map cw.D):Nat)<=4611686018427387904) :
    Calls Tryz.prog 66 #[.slice A ks.length c,.int .i64 k] w (zZ w L 6 A c k (ks.map cw.D)):=by
  have HR:=hide hR
  have HN:=hide hnd
  have hlen:=hR.1
  have hcm:=hR.2.1
  simp only[aj]at hlen
  unfold maxLen at hcm
  clear hR hnd
  go_enter Tryz.func66,Tryz.ntmps66
  go_wp2_with (fail)
  go_loopw [1,5] (fun kv iv wr=>∃i:Nat,i<=ks.length/\iv=.int .i64 i/\kv=.int .i64 (k+(Dat.eh ((ks.map cw.D).take i):Nat))/\Hid (cL wr L 6 A c (Dat.lz k i (ks.map cw.D)))/\dP (fun x=>x∉L) w wr) (fun _ iv _=>ks.length - (intOf iv).toNat)
  case atStart=>exact⟨0,Nat.zero_le _,rfl,by simp[Dat.eh],bP,lL⟩
  case round =>
    obtain⟨i,hi,rfl,rfl,hO,hoff⟩:=hrel
    rcases Nat.lt_or_ge i ks.length with hlt | hge
    . have hd:decide ((i:Int)<(ks.length:Int))=true:=by simp;omega
      have hi0:0<=(i:Int):=aB
      have hi1:(i:Int)<(ks.length:Int):=aB
      obtain⟨x0,x1,x2,x3,x4,x5,hx⟩:∃x0 x1 x2 x3 x4 x5,ks[i]=.mk x0 x1 x2 x3 x4 x5:=by cases ks[i];exact⟨_,_,_,_,_,_,rfl⟩
      have HX:=hide hx
      have ht:=Dat.j3 (ks.map cw.D) i aN
      have hle:=Dat.mN (ks.map cw.D) (i+1)
      simp only[List.getElem_map,hx,cw.jS]at ht
      obtain⟨m,hm⟩:∃m:Int,k+(Dat.eh ((ks.map cw.D).take i):Nat)=m:=⟨_,rfl⟩
      have hm0:0<=m:=aB
      have hm1:m+6<=4611686018427387904:=aB
      have HE:=hide (show k+(Dat.eh ((ks.map cw.D).take (i+1)):Nat)=m+6 by omega)
      rw[hm]
      have HM:=hide hm
      obtain⟨b,o,L1,Le,L2,vs,rfl,hb1,hf1,Du,hv,hvl,hc,hput⟩:=cL.at hO.out i bD
      rw[Dat.o0 k i _ aN,List.getElem_map,hx]at hv
      obtain⟨IP,rfl,g0,g1,g2,g3,g4,g5⟩:=cw.gV hv
      have Dv:=IP.symm
      clear IP
      subst Dv
      have z0:wr.cell? ⟨b,o+i*6,none⟩=some (.int .i64 x0):=by simpa using hc 0 aF
      have z1:wr.cell? ⟨b,o+i*6+1,none⟩=some (.int .i64 x1):=by simpa using hc 1 aF
      have z2:wr.cell? ⟨b,o+i*6+2,none⟩=some (.int .i64 x2):=by simpa using hc 2 aF
      have z3:wr.cell? ⟨b,o+i*6+3,none⟩=some (.string x3):=by simpa using hc 3 aF
      have z4:wr.cell? ⟨b,o+i*6+4,none⟩=some (.int .i64 x4):=by simpa using hc 4 aF
      have z5:wr.cell? ⟨b,o+i*6+5,none⟩=some (.int .i64 x5):=by simpa using hc 5 aF
      obtain⟨hbL,xi,GP,xj,hrest⟩:=qS Du HN.out
      unfold maxLen at g3
      have HP:=hide hput
      have HLe:=hide Du
      have HL2:=hide xi
      have Dw:=hide hrest
      clear hv hc hx ht hle hm xj hput Du xi hrest
      go_wp2_with (fail)
      refine (lF _ _ aB aB).mono ?_
      rintro e w1 ⟨rfl,lA⟩
      have hz1:=lA.size
      (try simp only[World.size_alloc,World.size_setCell,World.size_drew,World.heap_drewN]at hz1)
      have hk1:=lA.box b aM
      have uA:=lA.De b aM
      have hl1:b<w1.heap.size:=aB
      go_wp2_with (fail)
      go_roundw
      case rel =>
       refine⟨i+1,by omega,by go_num,by rw[HE.out];first | done | go_num,?_,lL⟩
       rw[<-Dat.nS k i _ aN]
       refine hide ?_
       rw[List.getElem_map,HX.out,HM.out]
       refine HP.out _ _ [.int .i64 (m),.int .i64 (m+1),.int .i64 (m+1+1),.string (markT (m+1+1+1)),.int .i64 (m+1+1+1+1),.int .i64 (m+1+1+1+1+1)] (cw.mM (m:=m) (x0:=x0) (x1:=x1) (x2:=x2) (x3:=x3) (x4:=x4) (x5:=x5) hm0 aB) rfl aR (fun z hz=>?_) (fun z=>by simp[go_sem,hk1,uA,hf1]) (fun z hz=>?_) (JW bn bn bn bn bn bn)
       . exact dP.same (S:=fun x=>x∉([])/\x≠b) (w:=wr) lL z ⟨(Dw.out z hz).1,(Dw.out z hz).2.1⟩ (hO.out.lt z (Dw.out z hz).2.2)
       . have n0:z≠o+i*6:=by omega
         have n1:z≠o+i*6+1:=aB
         have n2:z≠o+i*6+2:=aB
         have n3:z≠o+i*6+3:=aB
         have n4:z≠o+i*6+4:=aB
         have n5:z≠o+i*6+5:=aB
         simp[go_sem,hk1,uA,n0,n1,n2,n3,n4,n5]
      case measure=>simp[intOf];omega
    . have hd:decide ((i:Int)<(ks.length:Int))=false:=by simp;omega
      obtain rfl:i=ks.length:=by omega
      have SS:=hide (show cL wr L 6 A c (Dat.gC k (ks.map cw.D))from by have:=hO.out;rw[Dat.o6 _ _ _ aK]at this;exact this)
      go_wp2_with (fail)
      go_returns
      rw[List.take_of_length_le aK]
      exact⟨rfl,SS.out,hoff⟩
theorem oW (ks:List cw) (S:Nat->Prop) (w:World) (A:Option Addr) (c:Nat) (k:Int) (hR:Row w S 6 A c (Dat.gC k (ks.map cw.D))) (h0:0<=k) (hb:k+(Dat.eh (ks.map cw.D):Nat)<=4611686018427387904) :
  Calls Tryz.prog 71 #[.slice A ks.length c,.int .i64 k] w fun e w'=>e=.returned (.int .i64 (k+(Dat.eh (ks.map cw.D):Nat)))/\cE w w':=by
 have HR:=hide hR
 have hlen:=hR.1
 have hcm:=hR.2.1
 simp only[Dat.fP,aj]at hlen
 unfold maxLen at hcm
 clear hR
 go_enter Tryz.func71,Tryz.ntmps71
 go_wp2_with (fail)
 go_loopw [1,5] (fun kv iv wr=>∃i:Nat,i<=ks.length/\iv=.int .i64 i/\kv=.int .i64 (k+(Dat.eh ((ks.map cw.D).take i):Nat))/\cE w wr) (fun _ iv _=>ks.length - (intOf iv).toNat)
 case atStart=>exact⟨0,Nat.zero_le _,rfl,by simp[Dat.eh],bl⟩
 case round =>
  obtain⟨i,hi,rfl,rfl,hbw⟩:=hrel
  rcases Nat.lt_or_ge i ks.length with hlt | hge
  ·
   have hd:decide ((i:Int)<(ks.length:Int))=true:=aD
   have hi0:0<=(i:Int):=aB
   have hi1:(i:Int)<(ks.length:Int):=aB
   obtain⟨x0,x1,x2,x3,x4,x5,hx⟩:∃x0 x1 x2 x3 x4 x5,ks[i]=.mk x0 x1 x2 x3 x4 x5:=by cases ks[i];exact⟨_,_,_,_,_,_,rfl⟩
   have HX:=hide hx
   have ht:=Dat.j3 (ks.map cw.D) i aN
   have hle:=Dat.mN (ks.map cw.D) (i+1)
   simp only[List.getElem_map,hx,cw.jS]at ht
   obtain⟨m,hm⟩:∃m:Int,k+(Dat.eh ((ks.map cw.D).take i):Nat)=m:=⟨_,rfl⟩
   have hm0:0<=m:=aB
   have hm1:m+6<=4611686018427387904:=aB
   have HE:=hide (show k+(Dat.eh ((ks.map cw.D).take (i+1)):Nat)=m+6 by omega)
   rw[hm]
   have HM:=hide hm
   obtain⟨b,o,vs,rfl,-,hb1,hv,hvl,hc⟩:=Row.at HR.out i bJ
   rw[Dat.oK _ k i aN,List.getElem_map,hx,hm]at hv
   obtain rfl:=cw.lD hv
   have z0:wr.cell? ⟨b,o+i*6,none⟩=some (.int .i64 (m)):=by rw[hbw.box b hb1];simpa using hc 0 aF
   have z1:wr.cell? ⟨b,o+i*6+1,none⟩=some (.int .i64 (m+1)):=by rw[hbw.box b hb1];simpa using hc 1 aF
   have z2:wr.cell? ⟨b,o+i*6+2,none⟩=some (.int .i64 (m+1+1)):=by rw[hbw.box b hb1];simpa using hc 2 aF
   have z3:wr.cell? ⟨b,o+i*6+3,none⟩=some (.string (markT (m+1+1+1))):=by rw[hbw.box b hb1];simpa using hc 3 aF
   have z4:wr.cell? ⟨b,o+i*6+4,none⟩=some (.int .i64 (m+1+1+1+1)):=by rw[hbw.box b hb1];simpa using hc 4 aF
   have z5:wr.cell? ⟨b,o+i*6+5,none⟩=some (.int .i64 (m+1+1+1+1+1)):=by rw[hbw.box b hb1];simpa using hc 5 aF
   have hblt:b<wr.heap.size:=ak hb1 hbw.size
   clear hv hc hx ht hle hm
   go_wp2_with (fail)
   go_region_held3 (fun w'=>w'.cell? ⟨b,o+i*6+3,none⟩=some (.string (markT (m+1+1+1)))) (go_keep) (first | (go_at_call 118;refine (lF _ _ aB aB).mono ?_;rintro e Zk ⟨rfl,lA⟩;(have Nl:=lA.sz;obtain⟨Dz,DA,DB,DC⟩:=lA.lay (b))))
   go_wp2_with (fail)
   all_goals
    go_roundw
    case rel=>exact⟨i+1,by omega,by go_num,bB,bl⟩
    case measure=>simp[intOf];omega
  ·
   have hd:decide ((i:Int)<(ks.length:Int))=false:=aD
   obtain rfl:i=ks.length:=by omega
   go_wp2_with (fail)
   go_returns
   rw[List.take_of_length_le aK]
   exact⟨rfl,hbw⟩
theorem cz.gV {w:World} {L:List Nat} {x0:Int} {x1:Int} {x2:Int} {x3:List cw} {x4:List cw} {vs:List Value} (h:Dat.dB w L (cz.mk x0 x1 x2 x3 x4).D vs):∃A3 c3 L3 A4 c4 L4,L=L3++L4/\vs=[.int .i64 x0,.int .i64 x1,.int .i64 x2,.slice A3 x3.length c3,.slice A4 x4.length c4]/\fD x0/\fD x1/\fD x2/\cL w L3 6 A3 c3 (x3.map cw.D)/\cL w L4 6 A4 c4 (x4.map cw.D):=by
 rw[cz.fU]at h
 have hl:=h.length
 match vs,hl,h with
 | [u0,u1,u2,u3,u4],_,h =>
 simp only[Dat.dB]at h
 obtain⟨M0,N0,e0,h0,M1,N1,e1,h1,M2,N2,e2,h2,M3,N3,e3,h3,M4,N4,e4,h4,en⟩:=h
 subst en
 subst e4
 subst e3
 subst e2
 subst e1
 subst e0
 obtain⟨rfl,rfl,g0⟩:=Dat.fh.1 h0
 obtain⟨rfl,rfl,g1⟩:=Dat.fh.1 h1
 obtain⟨rfl,rfl,g2⟩:=Dat.fh.1 h2
 obtain⟨A3,c3,rfl,g3⟩:=Dat.gB.1 h3
 obtain⟨A4,c4,rfl,g4⟩:=Dat.gB.1 h4
 exact⟨A3,c3,M3,A4,c4,M4,by simp only[List.nil_append,List.append_nil],by simp only[aj],g0,g1,g2,g3,g4⟩
theorem cz.jQ {w:World} {x0:Int} {x1:Int} {x2:Int} {x3:List cw} {x4:List cw} {A3:Option Addr} {c3:Nat} {L3:List Nat} {A4:Option Addr} {c4:Nat} {L4:List Nat} (h0:fD x0) (h1:fD x1) (h2:fD x2) (h3:cL w L3 6 A3 c3 (x3.map cw.D)) (h4:cL w L4 6 A4 c4 (x4.map cw.D)):Dat.dB w (L3++L4) (cz.mk x0 x1 x2 x3 x4).D [.int .i64 x0,.int .i64 x1,.int .i64 x2,.slice A3 x3.length c3,.slice A4 x4.length c4]:=by
 rw[cz.fU]
 exact⟨[],_,(List.nil_append _).symm,Dat.fh.2 ⟨rfl,rfl,h0⟩,⟨[],_,(List.nil_append _).symm,Dat.fh.2 ⟨rfl,rfl,h1⟩,⟨[],_,(List.nil_append _).symm,Dat.fh.2 ⟨rfl,rfl,h2⟩,⟨L3,_,rfl,Dat.gB.2 ⟨_,_,by simp only[aj],h3⟩,⟨L4,_,(List.append_nil _).symm,Dat.gB.2 ⟨_,_,by simp only[aj],h4⟩,rfl⟩⟩⟩⟩⟩
def Co (t:cz):Prop:=∀(S:Nat->Prop) (w:World) (vs:List Value),Dat.cC w S t.D vs->Dat.mg t.D<=1048576 ->
 Calls Tryz.prog 112 #[.agg vs.toArray] w (zW w t.D)
theorem BI (ks:List cz) (IH:∀(i:Nat) (hi:i<ks.length),Co ks[i]) (S:Nat->Prop) (w:World) (A:Option Addr) (c:Nat) (hR:Row w S 5 A c (ks.map cz.D)) (hwt:ks.length+Dat.jE (ks.map cz.D)<=1048576) :
    Calls Tryz.prog 54 #[.slice A ks.length c] w (rL w 5 (ks.map cz.D)):=by
  have uN:=hide IH
  have HR:=hide hR
  have hlen:=hR.1
  have hcm:=hR.2.1
  simp only[aj]at hlen
  unfold maxLen at hcm
  clear IH hR
  obtain⟨cur,mL,hmk⟩:=kZ (P:=Tryz.prog) (t:=26) (e:=81) (k:=5) ks.length aB Tryz.underlying26 aC
  have HC:=hide mL
  clear mL
  have HW:=hide hwt
  clear hwt
  go_enter Tryz.func54,Tryz.ntmps54
  go_wp2_with (fail)
  have HF:=hide (ez.start w 81 5 ks.length HC.out)
  clear hmk
  go_loopw [4] (fun iv wr=>∃k:Nat,k<=ks.length/\iv=.int .i64 k/\ez wr w.heap.size 81 5 ks.length ((ks.map cz.D).take k)/\cE w wr) (fun iv _=>ks.length - (intOf iv).toNat)
  case atStart=>exact⟨0,Nat.zero_le _,rfl,HF.out,bl⟩
  case round =>
    obtain⟨k,hk,rfl,hF,hbw⟩:=hrel
    have lO:=hide hF
    have hgl:=hF.lt
    clear hF HF
    rcases Nat.lt_or_ge k ks.length with hlt | hge
    . have hd:decide ((k:Int)<(ks.length:Int))=true:=by simp;omega
      have hi0:0<=(k:Int):=aB
      have hi1:(k:Int)<(ks.length:Int):=aB
      (obtain⟨b1,o1,cH,cM,cN,cO,cP,mw,jr,jR,jI,hA1,hS1,hl1,hx1,hv1,eY,eG,fa,dY,er,db,de,dq,dy,dz⟩:=cz.at HR.out k hlt;subst hA1;have jh:=hide (Dat.cC.bel hbw hv1);have hh1:=hbw.box b1 hl1;have hw1:=ak hl1 (cE.size hbw);replace db:=(hh1 _).trans db;replace de:=(hh1 _).trans de;replace dq:=(hh1 _).trans dq;replace dy:=(hh1 _).trans dy;replace dz:=(hh1 _).trans dz;have gv:=hide hx1;have fJ:=hide dY;have jq:=hide er;clear hh1 hv1 hx1 hS1 dY er)
      have hw:=hide (Dat.jZ (ks.map cz.D) k aN)
      have hw':=hide (Dat.ng (ks.map cz.D) (k+1))
      have hwk:Dat.mg ks[k].D<=1048576:=by have a:=hw.out;have b:=hw'.out;have c:=HW.out;rw[List.getElem_map]at a;omega
      go_wp2_with (fail)
      refine (uN.out k hlt S _ _ (Dat.cC.bel bl jh.out) hwk).mono ?_
      rintro e w1 ⟨vs',L',rfl,hv',hnd',zX,hb1⟩
      have HN':=hide hnd'
      have Zj:=hide zX
      clear hnd' zX
      have GO:=hide hv'
      rw[gv.out]at hv'
      obtain⟨A3,c3,A4,c4,rfl,-⟩:=cz.vals (Dat.dB.vals (S:=fun _=>True) (fun _ _=>trivial) hv')
      clear hv'
      obtain⟨y0,e0⟩:=(ez.bel lO.out (show cE _ w1 from bl)).cell (i:=k*5) aB
      obtain⟨y1,e1⟩:=(ez.bel lO.out (show cE _ w1 from bl)).cell (i:=k*5+1) aB
      obtain⟨y2,e2⟩:=(ez.bel lO.out (show cE _ w1 from bl)).cell (i:=k*5+2) aB
      obtain⟨y3,e3⟩:=(ez.bel lO.out (show cE _ w1 from bl)).cell (i:=k*5+3) aB
      obtain⟨y4,e4⟩:=(ez.bel lO.out (show cE _ w1 from bl)).cell (i:=k*5+4) aB
      have f0:=(ez.bel lO.out (show cE _ w1 from bl)).free (k*5)
      have f1:=(ez.bel lO.out (show cE _ w1 from bl)).free (k*5+1)
      have f2:=(ez.bel lO.out (show cE _ w1 from bl)).free (k*5+2)
      have f3:=(ez.bel lO.out (show cE _ w1 from bl)).free (k*5+3)
      have f4:=(ez.bel lO.out (show cE _ w1 from bl)).free (k*5+4)
      go_wp2_with (fail)
      go_roundw
      case rel =>
       exact⟨k+1,by omega,by go_num,ez.MJ lO.out hlt rfl bl (Dat.dB.bel bl GO.out) HN'.out (fun b hb=>Zj.out b hb),bl⟩
      case measure=>simp[intOf];omega
    . have hd:decide ((k:Int)<(ks.length:Int))=false:=by simp;omega
      go_wp2_with (fail)
      go_returns
      obtain⟨L,q1,q2,q3⟩:=ez.done lO.out hge rfl aV
      exact⟨some ⟨w.heap.size,0,none⟩,ks.length,L,by rw[aj];rfl,q1,q2,q3,hbw⟩
theorem BJ:∀t:cz,Co t:=by
 rintro⟨x0,x1,x2,x3,x4⟩
 intro S w vs hv hwt
 obtain⟨A3,c3,A4,c4,rfl,g0,g1,g2,xV,JX⟩:=cz.vals hv
 have R3:=hide xV
 have R4:=hide JX
 rw[cz.fU]at hwt
 simp only[Dat.mg,Dat.wt,aj]at hwt
 have hw3:x3.length+Dat.jE (x3.map cw.D)<=1048576:=aB
 have hw4:x4.length+Dat.jE (x4.map cw.D)<=1048576:=aB
 clear hv hwt xV JX
 go_enter Tryz.func112,Tryz.ntmps112
 go_wp2_with (fail)
 refine (qj x3 S _ _ _ (Row.bel bl R3.out) hw3).mono ?_
 rintro e w1 ⟨B3,d3,L3,rfl,JY,hN3,hL3,hb1⟩
 (have hz1:=hb1.sz;obtain⟨eA,fb,fc,fA⟩:=hb1.lay (w.heap.size);obtain⟨ff,fE,fR,fS⟩:=hb1.lay (w.heap.size+1);obtain⟨iM,jx,ko,kp⟩:=hb1.lay (w.heap.size+1+1))
 have N3:=hide hN3
 have V3:=hide (show ∀b,b∈L3->w.heap.size+2<b from fun b hb=>by have:=hL3 b hb;(try simp only[World.size_alloc,World.size_setCell,World.size_drew,World.heap_drewN]at this);omega)
 have U3:=hide hL3
 have T3:=hide (JY.lt)
 have Q3:=hide JY
 clear JY hN3 hL3
 go_wp2_with (fail)
 refine (qj x4 S _ _ _ (Row.bel bl R4.out) hw4).mono ?_
 rintro e w2 ⟨B4,d4,L4,rfl,hQ4,hN4,hL4,hb2⟩
 (have hz2:=hb2.sz;obtain⟨gO,lJ,mG,mH⟩:=hb2.lay (w.heap.size);obtain⟨iW,nT,sn,su⟩:=hb2.lay (w.heap.size+1);obtain⟨jW,uO,Aa,Ab⟩:=hb2.lay (w.heap.size+1+1))
 have N4:=hide hN4
 have V4:=hide (show ∀b,b∈L4->w.heap.size+2<b from fun b hb=>by have:=hL4 b hb;(try simp only[World.size_alloc,World.size_setCell,World.size_drew,World.heap_drewN]at this);omega)
 have U4:=hide (show ∀b,b∈L4->w1.heap.size<=b from fun b hb=>by have:=hL4 b hb;(try simp only[World.size_alloc,World.size_setCell,World.size_drew,World.heap_drewN]at this);omega)
 have T4:=hide (hQ4.lt)
 have Q4:=hide hQ4
 clear hQ4 hN4 hL4
 go_wp2_with (fail)
 exact bodyPost_ret (v:=.agg #[.int .i64 x0,.int .i64 x1,.int .i64 x2,.slice B3 x3.length d3,.slice B4 x4.length d4]) (by simp[results,Tryz.results112,go_sem,ff,fE,iM,jx,iW,nT,jW,uO]) rfl
  ⟨[.int .i64 x0,.int .i64 x1,.int .i64 x2,.slice B3 x3.length d3,.slice B4 x4.length d4],L3++L4,rfl,cz.jQ g0 g1 g2 (cL.gL (S:=fun b=>w.heap.size+2<b) lL (fun b hb=>V3.out b hb) Q3.out) (cL.gL (S:=fun b=>w.heap.size+2<b) lL (fun b hb=>V4.out b hb) Q4.out),jK (n:=w1.heap.size) N3.out (N4.out) (fun b hb=>T3.out b hb) (fun b hb=>by have:=U4.out b hb;omega),fun b hb=>(List.mem_append.1 hb).elim (fun hb=>by have:=V3.out b hb;omega) (fun hb=>by have:=V4.out b hb;omega),bl⟩
theorem Ac (ks:List cz) (S:Nat->Prop) (w:World) (A:Option Addr) (c:Nat) (hR:Row w S 5 A c (ks.map cz.D)) (hwt:ks.length+Dat.jE (ks.map cz.D)<=1048576) :
  Calls Tryz.prog 54 #[.slice A ks.length c] w (rL w 5 (ks.map cz.D)):=BI ks (fun _ _=>BJ _) S w A c hR hwt
theorem cz.jS {x0:Int} {x1:Int} {x2:Int} {x3:List cw} {x4:List cw}:Dat.mF (cz.mk x0 x1 x2 x3 x4).D=3+Dat.eh (x3.map cw.D)+Dat.eh (x4.map cw.D):=by
 simp only[cz.fU,Dat.mF,Dat.cnt];(try omega)
theorem cz.mM {w:World} {m:Int} {x0:Int} {x1:Int} {x2:Int} {x3:List cw} {x4:List cw} {A3:Option Addr} {c3:Nat} {L3:List Nat} {A4:Option Addr} {c4:Nat} {L4:List Nat} (h0:0<=m) (hm:m+(3+Dat.eh (x3.map cw.D)+Dat.eh (x4.map cw.D):Nat)<=4611686018427387904) (h3:cL w L3 6 A3 c3 (Dat.gC (m+1+1+1) (x3.map cw.D))) (h4:cL w L4 6 A4 c4 (Dat.gC (m+1+1+1+(Dat.eh (x3.map cw.D):Nat)) (x4.map cw.D))):Dat.dB w (L3++L4) (Dat.ij m (cz.mk x0 x1 x2 x3 x4).D) [.int .i64 (m),.int .i64 (m+1),.int .i64 (m+1+1),.slice A3 x3.length c3,.slice A4 x4.length c4]:=by
 have e:Dat.ij m (cz.mk x0 x1 x2 x3 x4).D=[.int (m),.int (m+1),.int (m+1+1),.row 6 (Dat.gC (m+1+1+1) (x3.map cw.D)),.row 6 (Dat.gC (m+1+1+1+(Dat.eh (x3.map cw.D):Nat)) (x4.map cw.D))]:=by
  simp only[cz.fU,Dat.ij,Dat.mark,Dat.cnt]
  first | done | rfl | (simp only[Nat.jJ];done) | (simp;done) | (push_cast;simp)
 rw[e]
 exact⟨[],_,(List.nil_append _).symm,Dat.fh.2 ⟨rfl,rfl,fD.of_le aB aB⟩,⟨[],_,(List.nil_append _).symm,Dat.fh.2 ⟨rfl,rfl,fD.of_le aB aB⟩,⟨[],_,(List.nil_append _).symm,Dat.fh.2 ⟨rfl,rfl,fD.of_le aB aB⟩,⟨L3,_,rfl,Dat.gB.2 ⟨_,_,by simp only[Dat.fP,aj],h3⟩,⟨L4,_,(List.append_nil _).symm,Dat.gB.2 ⟨_,_,by simp only[Dat.fP,aj],h4⟩,rfl⟩⟩⟩⟩⟩
theorem cz.oA:∀t:cz,Dat.mF t.D<=16+16*Dat.mg t.D:=by
 rintro⟨x0,x1,x2,x3,x4⟩
 have r3:=jv cw.D x3 (fun i hi=>cw.oA x3[i])
 have r4:=jv cw.D x4 (fun i hi=>cw.oA x4[i])
 rw[cz.jS,cz.fU]
 simp only[Dat.mg,Dat.wt,aj]
 omega
theorem cz.lD {w:World} {S:Nat->Prop} {m:Int} {x0:Int} {x1:Int} {x2:Int} {x3:List cw} {x4:List cw} {vs:List Value} (h:Dat.cC w S (Dat.ij m (cz.mk x0 x1 x2 x3 x4).D) vs):∃A3 c3 A4 c4,vs=[.int .i64 (m),.int .i64 (m+1),.int .i64 (m+1+1),.slice A3 x3.length c3,.slice A4 x4.length c4]/\Row w S 6 A3 c3 (Dat.gC (m+1+1+1) (x3.map cw.D))/\Row w S 6 A4 c4 (Dat.gC (m+1+1+1+(Dat.eh (x3.map cw.D):Nat)) (x4.map cw.D)):=by
 have e:Dat.ij m (cz.mk x0 x1 x2 x3 x4).D=[.int (m),.int (m+1),.int (m+1+1),.row 6 (Dat.gC (m+1+1+1) (x3.map cw.D)),.row 6 (Dat.gC (m+1+1+1+(Dat.eh (x3.map cw.D):Nat)) (x4.map cw.D))]:=by
  simp only[cz.fU,Dat.ij,Dat.mark,Dat.cnt]
  first | done | rfl | (simp only[Nat.jJ];done) | (simp;done) | (push_cast;simp)
 rw[e]at h
 match vs,h with
 | [u0,u1,u2,u3,u4],h =>
 simp only[Dat.cC]at h
 obtain⟨h0,h1,h2,h3,h4,-⟩:=h
 obtain⟨rfl,-⟩:=Dat.dA.1 h0
 obtain⟨rfl,-⟩:=Dat.dA.1 h1
 obtain⟨rfl,-⟩:=Dat.dA.1 h2
 obtain⟨A3,c3,rfl,g3⟩:=Dat.fo.1 h3
 obtain⟨A4,c4,rfl,g4⟩:=Dat.fo.1 h4
 exact⟨A3,c3,A4,c4,by simp only[Dat.fP,aj],g3,g4⟩
theorem zt (ks:List cz) (L:List Nat) (w:World) (A:Option Addr) (c:Nat) (k:Int) (hR:cL w L 5 A c (ks.map cz.D)) (hnd:L.Nodup) (h0:0<=k) (hb:k+(Dat.eh (ks.map cz.D):Nat)<=4611686018427387904) :
    Calls Tryz.prog 65 #[.slice A ks.length c,.int .i64 k] w (zZ w L 5 A c k (ks.map cz.D)):=by
  have HR:=hide hR
  have HN:=hide hnd
  have hlen:=hR.1
  have hcm:=hR.2.1
  simp only[aj]at hlen
  unfold maxLen at hcm
  clear hR hnd
  go_enter Tryz.func65,Tryz.ntmps65
  go_wp2_with (fail)
  go_loopw [1,5] (fun kv iv wr=>∃i:Nat,i<=ks.length/\iv=.int .i64 i/\kv=.int .i64 (k+(Dat.eh ((ks.map cz.D).take i):Nat))/\Hid (cL wr L 5 A c (Dat.lz k i (ks.map cz.D)))/\dP (fun x=>x∉L) w wr) (fun _ iv _=>ks.length - (intOf iv).toNat)
  case atStart=>exact⟨0,Nat.zero_le _,rfl,by simp[Dat.eh],bP,lL⟩
  case round =>
    obtain⟨i,hi,rfl,rfl,hO,hoff⟩:=hrel
    rcases Nat.lt_or_ge i ks.length with hlt | hge
    . have hd:decide ((i:Int)<(ks.length:Int))=true:=by simp;omega
      have hi0:0<=(i:Int):=aB
      have hi1:(i:Int)<(ks.length:Int):=aB
      obtain⟨x0,x1,x2,x3,x4,hx⟩:∃x0 x1 x2 x3 x4,ks[i]=.mk x0 x1 x2 x3 x4:=by cases ks[i];exact⟨_,_,_,_,_,rfl⟩
      have HX:=hide hx
      have ht:=Dat.j3 (ks.map cz.D) i aN
      have hle:=Dat.mN (ks.map cz.D) (i+1)
      simp only[List.getElem_map,hx,cz.jS]at ht
      obtain⟨q3,hq3⟩:∃q,Dat.eh (x3.map cw.D)=q:=⟨_,rfl⟩
      obtain⟨q4,hq4⟩:∃q,Dat.eh (x4.map cw.D)=q:=⟨_,rfl⟩
      simp only[hq3,hq4]at ht
      obtain⟨m,hm⟩:∃m:Int,k+(Dat.eh ((ks.map cz.D).take i):Nat)=m:=⟨_,rfl⟩
      have hm0:0<=m:=aB
      have hm1:m+3+(q3:Nat)+(q4:Nat)<=4611686018427387904:=aB
      have HE:=hide (show k+(Dat.eh ((ks.map cz.D).take (i+1)):Nat)=m+3+(q3:Nat)+(q4:Nat) by omega)
      rw[hm]
      have HM:=hide hm
      have xd:=hide hq3
      have DD:=hide hq4
      obtain⟨b,o,L1,Le,L2,vs,rfl,hb1,hf1,Du,hv,hvl,hc,hput⟩:=cL.at hO.out i bD
      rw[Dat.o0 k i _ aN,List.getElem_map,hx]at hv
      obtain⟨A3,c3,oj,A4,c4,IQ,IP,rfl,g0,g1,g2,g3,g4⟩:=cz.gV hv
      have Dv:=IP.symm
      clear IP
      subst Dv
      have z0:wr.cell? ⟨b,o+i*5,none⟩=some (.int .i64 x0):=by simpa using hc 0 aF
      have z1:wr.cell? ⟨b,o+i*5+1,none⟩=some (.int .i64 x1):=by simpa using hc 1 aF
      have z2:wr.cell? ⟨b,o+i*5+2,none⟩=some (.int .i64 x2):=by simpa using hc 2 aF
      have z3:wr.cell? ⟨b,o+i*5+3,none⟩=some (.slice A3 x3.length c3):=by simpa using hc 3 aF
      have z4:wr.cell? ⟨b,o+i*5+4,none⟩=some (.slice A4 x4.length c4):=by simpa using hc 4 aF
      obtain⟨hbL,xi,GP,xj,hrest⟩:=qS Du HN.out
      have hNN:=xj
      have YX:=hide (List.nodup_append.1 xj).1
      have GJ:=(List.nodup_append.1 xj).2.2
      have GK:=(List.nodup_append.1 xj).2.1
      have ag9:=hide GK
      have HI3:=hide (show ∀x,x∈oj->x∈(oj++IQ)from fun x h=>by simp[h])
      have Y0:b∉oj:=fun h=>GP (HI3.out b h)
      have HI4:=hide (show ∀x,x∈IQ->x∈(oj++IQ)from fun x h=>by simp[h])
      have aha:b∉IQ:=fun h=>GP (HI4.out b h)
      have Uw:=hide (show ∀x,x∈oj->x∉IQ from fun x h h2=>GJ x h x bu rfl)
      have acs:=hide (show ∀x,x∈IQ->x∉oj from fun x h h2=>Uw.out x h2 h)
      have G3:=hide g3
      have G4:=hide g4
      have HP:=hide hput
      have HLe:=hide Du
      have HL2:=hide xi
      have Dw:=hide hrest
      clear hv hc hx ht hle hm hq3 hq4 GJ GK hNN xj g3 g4 hput Du xi hrest
      go_wp2_with (fail)
      refine (oV x3 oj _ A3 c3 _ (cL.gL (S:=fun x=>x∈oj) (w:=wr) lL (fun x hx=>hx) G3.out) YX.out aB (by rw[xd.out];omega)).mono ?_
      rintro e w1 ⟨rfl,hO3,ho1⟩
      rw[xd.out]
      have HO3:=hide hO3
      clear hO3
      have hz1:=ho1.size
      (try simp only[World.size_alloc,World.size_setCell,World.size_drew,World.heap_drewN]at hz1)
      have GL:=ho1.same b Y0 aM
      have hk1:=GL.1
      have uA:=GL.2
      have hl1:b<w1.heap.size:=aB
      have agE:=dP.narrow (S':=fun x=>x∉L) ho1 (fun x hx h=>hx (HL2.out x (HI3.out x h)))
      have al5:=dP.narrow (S':=fun x=>x∉(oj++IQ)/\x≠b) ho1 (fun x hx h=>hx.1 (HI3.out x h))
      have aj6:=dP.narrow (S':=fun x=>x∈IQ) ho1 (fun x hx=>acs.out x hx)
      clear GL ho1
      go_wp2_with (fail)
      refine (oV x4 IQ _ A4 c4 _ (cL.gL (S:=fun x=>x∈IQ) (w:=wr) lL (fun x hx=>hx) G4.out) ag9.out aB (by rw[DD.out];omega)).mono ?_
      rintro e w2 ⟨rfl,hO4,ho2⟩
      rw[DD.out]
      have HO4:=hide hO4
      clear hO4
      have hz2:=ho2.size
      (try simp only[World.size_alloc,World.size_setCell,World.size_drew,World.heap_drewN]at hz2)
      have zO:=ho2.same b aha aM
      have hk2:=zO.1
      have Ey:=zO.2
      have hl2:b<w2.heap.size:=aB
      have ab7:=dP.narrow (S':=fun x=>x∉L) ho2 (fun x hx h=>hx (HL2.out x (HI4.out x h)))
      have ahb:=dP.narrow (S':=fun x=>x∉(oj++IQ)/\x≠b) ho2 (fun x hx h=>hx.1 (HI4.out x h))
      have ab8:=dP.narrow (S':=fun x=>x∈oj) ho2 (fun x hx=>Uw.out x hx)
      clear zO ho2
      go_wp2_with (fail)
      go_roundw
      case rel =>
       refine⟨i+1,by omega,by go_num,by rw[HE.out];first | done | go_num,?_,lL⟩
       rw[<-Dat.nS k i _ aN]
       refine hide ?_
       rw[List.getElem_map,HX.out,HM.out]
       refine HP.out _ _ [.int .i64 (m),.int .i64 (m+1),.int .i64 (m+1+1),.slice A3 x3.length c3,.slice A4 x4.length c4] (by (try simp only[<-xd.out,<-DD.out]);exact cz.mM (m:=m) (x0:=x0) (x1:=x1) (x2:=x2) (x3:=x3) (x4:=x4) (A3:=A3) (c3:=c3) (L3:=oj) (A4:=A4) (c4:=c4) (L4:=IQ) hm0 (by (try simp only[xd.out,DD.out]);omega) (by (try simp only[xd.out,DD.out]);exact cL.gL (S:=fun x=>x∈oj) (w:=w1) lL (fun x hx=>hx) HO3.out) (by (try simp only[xd.out,DD.out]);exact cL.gL (S:=fun x=>x∈IQ) (w:=w2) lL (fun x hx=>hx) HO4.out)) rfl aR (fun z hz=>?_) (fun z=>by simp[go_sem,hk1,uA,hk2,Ey,hf1]) (fun z hz=>?_) (JZ bq bq bq bq bq)
       . exact dP.same (S:=fun x=>x∉(oj++IQ)/\x≠b) (w:=wr) lL z ⟨(Dw.out z hz).1,(Dw.out z hz).2.1⟩ (hO.out.lt z (Dw.out z hz).2.2)
       . have n0:z≠o+i*5:=by omega
         have n1:z≠o+i*5+1:=aB
         have n2:z≠o+i*5+2:=aB
         have n3:z≠o+i*5+3:=aB
         have n4:z≠o+i*5+4:=aB
         simp[go_sem,hk1,uA,hk2,Ey,n0,n1,n2,n3,n4]
      case measure=>simp[intOf];omega
    . have hd:decide ((i:Int)<(ks.length:Int))=false:=by simp;omega
      obtain rfl:i=ks.length:=by omega
      have SS:=hide (show cL wr L 5 A c (Dat.gC k (ks.map cz.D))from by have:=hO.out;rw[Dat.o6 _ _ _ aK]at this;exact this)
      go_wp2_with (fail)
      go_returns
      rw[List.take_of_length_le aK]
      exact⟨rfl,SS.out,hoff⟩
theorem zv (ks:List cz) (S:Nat->Prop) (w:World) (A:Option Addr) (c:Nat) (k:Int) (hR:Row w S 5 A c (Dat.gC k (ks.map cz.D))) (h0:0<=k) (hb:k+(Dat.eh (ks.map cz.D):Nat)<=4611686018427387904) :
  Calls Tryz.prog 70 #[.slice A ks.length c,.int .i64 k] w fun e w'=>e=.returned (.int .i64 (k+(Dat.eh (ks.map cz.D):Nat)))/\cE w w':=by
 have HR:=hide hR
 have hlen:=hR.1
 have hcm:=hR.2.1
 simp only[Dat.fP,aj]at hlen
 unfold maxLen at hcm
 clear hR
 go_enter Tryz.func70,Tryz.ntmps70
 go_wp2_with (fail)
 go_loopw [1,5] (fun kv iv wr=>∃i:Nat,i<=ks.length/\iv=.int .i64 i/\kv=.int .i64 (k+(Dat.eh ((ks.map cz.D).take i):Nat))/\cE w wr) (fun _ iv _=>ks.length - (intOf iv).toNat)
 case atStart=>exact⟨0,Nat.zero_le _,rfl,by simp[Dat.eh],bl⟩
 case round =>
  obtain⟨i,hi,rfl,rfl,hbw⟩:=hrel
  rcases Nat.lt_or_ge i ks.length with hlt | hge
  ·
   have hd:decide ((i:Int)<(ks.length:Int))=true:=aD
   have hi0:0<=(i:Int):=aB
   have hi1:(i:Int)<(ks.length:Int):=aB
   obtain⟨x0,x1,x2,x3,x4,hx⟩:∃x0 x1 x2 x3 x4,ks[i]=.mk x0 x1 x2 x3 x4:=by cases ks[i];exact⟨_,_,_,_,_,rfl⟩
   have HX:=hide hx
   have ht:=Dat.j3 (ks.map cz.D) i aN
   have hle:=Dat.mN (ks.map cz.D) (i+1)
   simp only[List.getElem_map,hx,cz.jS]at ht
   obtain⟨q3,hq3⟩:∃q,Dat.eh (x3.map cw.D)=q:=⟨_,rfl⟩
   obtain⟨q4,hq4⟩:∃q,Dat.eh (x4.map cw.D)=q:=⟨_,rfl⟩
   simp only[hq3,hq4]at ht
   obtain⟨m,hm⟩:∃m:Int,k+(Dat.eh ((ks.map cz.D).take i):Nat)=m:=⟨_,rfl⟩
   have hm0:0<=m:=aB
   have hm1:m+3+(q3:Nat)+(q4:Nat)<=4611686018427387904:=aB
   have HE:=hide (show k+(Dat.eh ((ks.map cz.D).take (i+1)):Nat)=m+3+(q3:Nat)+(q4:Nat) by omega)
   rw[hm]
   have HM:=hide hm
   have xd:=hide hq3
   have DD:=hide hq4
   obtain⟨b,o,vs,rfl,-,hb1,hv,hvl,hc⟩:=Row.at HR.out i bJ
   rw[Dat.oK _ k i aN,List.getElem_map,hx,hm]at hv
   obtain⟨A3,c3,A4,c4,rfl,g3,g4⟩:=cz.lD hv
   have z0:wr.cell? ⟨b,o+i*5,none⟩=some (.int .i64 (m)):=by rw[hbw.box b hb1];simpa using hc 0 aF
   have z1:wr.cell? ⟨b,o+i*5+1,none⟩=some (.int .i64 (m+1)):=by rw[hbw.box b hb1];simpa using hc 1 aF
   have z2:wr.cell? ⟨b,o+i*5+2,none⟩=some (.int .i64 (m+1+1)):=by rw[hbw.box b hb1];simpa using hc 2 aF
   have z3:wr.cell? ⟨b,o+i*5+3,none⟩=some (.slice A3 x3.length c3):=by rw[hbw.box b hb1];simpa using hc 3 aF
   have z4:wr.cell? ⟨b,o+i*5+4,none⟩=some (.slice A4 x4.length c4):=by rw[hbw.box b hb1];simpa using hc 4 aF
   have G3:=hide g3
   have G4:=hide g4
   have hblt:b<wr.heap.size:=ak hb1 hbw.size
   clear hv hc hx ht hle hm hq3 hq4 g3 g4
   go_wp2_with (fail)
   refine (oW x3 S _ A3 c3 _ (Row.bel (w:=w) bl (by have:=G3.out;(try simp only[xd.out,DD.out]at this);exact this)) aB (by rw[xd.out];omega)).mono ?_
   rintro e Zk ⟨rfl,lA⟩;rw[xd.out];(have Nl:=lA.sz;obtain⟨Dz,DA,DB,DC⟩:=lA.lay (b))
   go_wp2_with (fail)
   refine (oW x4 S _ A4 c4 _ (Row.bel (w:=w) bl (by have:=G4.out;(try simp only[xd.out,DD.out]at this);exact this)) aB (by rw[DD.out];omega)).mono ?_
   rintro e ahc ⟨rfl,EF⟩;rw[DD.out];(have acu:=EF.sz;obtain⟨SU,SV,SX,SY⟩:=EF.lay (b))
   go_wp2_with (fail)
   all_goals
    go_roundw
    case rel=>exact⟨i+1,by omega,by go_num,bB,bl⟩
    case measure=>simp[intOf];omega
  ·
   have hd:decide ((i:Int)<(ks.length:Int))=false:=aD
   obtain rfl:i=ks.length:=by omega
   go_wp2_with (fail)
   go_returns
   rw[List.take_of_length_le aK]
   exact⟨rfl,hbw⟩
theorem mO (ks:List ByteArray) (S:Nat->Prop) (w:World) (A:Option Addr) (c:Nat) (hR:Row w S 1 A c (ks.map fun x=>[Dat.str x])) (hwt:ks.length+Dat.jE (ks.map fun x=>[Dat.str x])<=1048576) :
    Calls Tryz.prog 52 #[.slice A ks.length c] w (rL w 1 (ks.map fun x=>[Dat.str x])):=by
  have HR:=hide hR
  have hlen:=hR.1
  have hcm:=hR.2.1
  simp only[aj]at hlen
  unfold maxLen at hcm
  clear hR
  obtain⟨cur,mL,hmk⟩:=kZ (P:=Tryz.prog) (t:=24) (e:=9) (k:=1) ks.length aB Tryz.underlying24 aC
  have HC:=hide mL
  clear mL
  go_enter Tryz.func52,Tryz.ntmps52
  go_wp2_with (fail)
  have HF:=hide (ez.start w 9 1 ks.length HC.out)
  clear hmk
  go_loopw [4] (fun iv wr=>∃k:Nat,k<=ks.length/\iv=.int .i64 k/\ez wr w.heap.size 9 1 ks.length ((ks.map fun x=>[Dat.str x]).take k)/\cE w wr) (fun iv _=>ks.length - (intOf iv).toNat)
  case atStart=>exact⟨0,Nat.zero_le _,rfl,HF.out,bl⟩
  case round =>
    obtain⟨k,hk,rfl,hF,hbw⟩:=hrel
    have lO:=hide hF
    have hgl:=hF.lt
    clear hF HF
    rcases Nat.lt_or_ge k ks.length with hlt | hge
    . have hd:decide ((k:Int)<(ks.length:Int))=true:=by simp;omega
      obtain⟨b1,o1,hA1,hS1,hl1,hz1,c1⟩:=qU HR.out k hlt
      subst hA1
      replace c1:=(hbw.box b1 hl1 _).trans c1
      have HZ1:=hide hz1
      unfold maxLen at hz1
      obtain⟨y0,e0⟩:=lO.out.cell (i:=k) aB
      have f0:=lO.out.free k
      go_wp2_with (fail)
      go_roundw
      case rel =>
       exact⟨k+1,by omega,by go_num,ez.MG (M:=[]) lO.out hlt rfl bl ⟨[],_,(List.nil_append _).symm,Dat.lE.2 ⟨rfl,rfl,HZ1.out⟩,rfl⟩ List.nodup_nil (fun b hb=>by simp at hb),bl⟩
      case measure=>simp[intOf];omega
    . have hd:decide ((k:Int)<(ks.length:Int))=false:=by simp;omega
      go_wp2_with (fail)
      go_returns
      obtain⟨L,q1,q2,q3⟩:=ez.done lO.out hge rfl aV
      exact⟨some ⟨w.heap.size,0,none⟩,ks.length,L,by rw[aj];rfl,q1,q2,q3,hbw⟩
theorem EG.jS {x0:ByteArray}:Dat.mF [Dat.str x0]=1:=by
 simp only[Dat.mF,Dat.cnt];(try omega)
theorem EG.mM {w:World} {m:Int} {x0:ByteArray} (h0:0<=m) (hm:m+(1:Nat)<=4611686018427387904):Dat.dB w ([]) (Dat.ij m [Dat.str x0]) [.string (markT (m))]:=by
 have e:Dat.ij m [Dat.str x0]=[.str (markT (m))]:=by
  simp only[Dat.ij,Dat.mark,Dat.cnt]
  first | done | rfl | (simp only[Nat.jJ];done) | (simp;done) | (push_cast;simp)
 rw[e]
 exact⟨[],_,(List.nil_append _).symm,Dat.lE.2 ⟨rfl,rfl,al (wN _) aV⟩,rfl⟩
theorem EG.lD {w:World} {S:Nat->Prop} {m:Int} {x0:ByteArray} {vs:List Value} (h:Dat.cC w S (Dat.ij m [Dat.str x0]) vs):vs=[.string (markT (m))]:=by
 have e:Dat.ij m [Dat.str x0]=[.str (markT (m))]:=by
  simp only[Dat.ij,Dat.mark,Dat.cnt]
  first | done | rfl | (simp only[Nat.jJ];done) | (simp;done) | (push_cast;simp)
 rw[e]at h
 match vs,h with
 | [u0],h =>
 simp only[Dat.cC]at h
 obtain⟨h0,-⟩:=h
 obtain⟨rfl,-⟩:=Dat.gz.1 h0
 exact rfl
theorem ma (ks:List ByteArray) (L:List Nat) (w:World) (A:Option Addr) (c:Nat) (k:Int) (hR:cL w L 1 A c (ks.map (fun x=>[Dat.str x]))) (hnd:L.Nodup) (h0:0<=k) (hb:k+(Dat.eh (ks.map (fun x=>[Dat.str x])):Nat)<=4611686018427387904) :
    Calls Tryz.prog 63 #[.slice A ks.length c,.int .i64 k] w (zZ w L 1 A c k (ks.map (fun x=>[Dat.str x]))):=by
  have HR:=hide hR
  have HN:=hide hnd
  have hlen:=hR.1
  have hcm:=hR.2.1
  simp only[aj]at hlen
  unfold maxLen at hcm
  clear hR hnd
  go_enter Tryz.func63,Tryz.ntmps63
  go_wp2_with (fail)
  go_loopw [1,5] (fun kv iv wr=>∃i:Nat,i<=ks.length/\iv=.int .i64 i/\kv=.int .i64 (k+(Dat.eh ((ks.map (fun x=>[Dat.str x])).take i):Nat))/\Hid (cL wr L 1 A c (Dat.lz k i (ks.map (fun x=>[Dat.str x]))))/\dP (fun x=>x∉L) w wr) (fun _ iv _=>ks.length - (intOf iv).toNat)
  case atStart=>exact⟨0,Nat.zero_le _,rfl,by simp[Dat.eh],bP,lL⟩
  case round =>
    obtain⟨i,hi,rfl,rfl,hO,hoff⟩:=hrel
    rcases Nat.lt_or_ge i ks.length with hlt | hge
    . have hd:decide ((i:Int)<(ks.length:Int))=true:=by simp;omega
      have hi0:0<=(i:Int):=aB
      have hi1:(i:Int)<(ks.length:Int):=aB
      obtain⟨x0,hx⟩:∃x0,ks[i]=x0:=⟨_,rfl⟩
      have HX:=hide hx
      have ht:=Dat.j3 (ks.map (fun x=>[Dat.str x])) i aN
      have hle:=Dat.mN (ks.map (fun x=>[Dat.str x])) (i+1)
      simp only[List.getElem_map,hx,EG.jS]at ht
      obtain⟨m,hm⟩:∃m:Int,k+(Dat.eh ((ks.map (fun x=>[Dat.str x])).take i):Nat)=m:=⟨_,rfl⟩
      have hm0:0<=m:=aB
      have hm1:m+1<=4611686018427387904:=aB
      have HE:=hide (show k+(Dat.eh ((ks.map (fun x=>[Dat.str x])).take (i+1)):Nat)=m+1 by omega)
      rw[hm]
      have HM:=hide hm
      obtain⟨b,o,L1,Le,L2,vs,rfl,hb1,hf1,Du,hv,hvl,hc,hput⟩:=cL.at hO.out i bD
      rw[Dat.o0 k i _ aN,List.getElem_map,hx]at hv
      obtain⟨IP,rfl,g0⟩:=EG.gV hv
      have Dv:=IP.symm
      clear IP
      subst Dv
      have z0:wr.cell? ⟨b,o+i*1,none⟩=some (.string x0):=by simpa using hc 0 aF
      simp only[Nat.mul_one]at z0
      obtain⟨hbL,xi,GP,xj,hrest⟩:=qS Du HN.out
      unfold maxLen at g0
      have HP:=hide hput
      have HLe:=hide Du
      have HL2:=hide xi
      have Dw:=hide hrest
      clear hv hc hx ht hle hm xj hput Du xi hrest
      go_wp2_with (fail)
      refine (lF _ _ aB aB).mono ?_
      rintro e w1 ⟨rfl,lA⟩
      have hz1:=lA.size
      (try simp only[World.size_alloc,World.size_setCell,World.size_drew,World.heap_drewN]at hz1)
      have hk1:=lA.box b aM
      have uA:=lA.De b aM
      have hl1:b<w1.heap.size:=aB
      go_wp2_with (fail)
      go_roundw
      case rel =>
       refine⟨i+1,by omega,by go_num,by rw[HE.out];first | done | go_num,?_,lL⟩
       rw[<-Dat.nS k i _ aN]
       refine hide ?_
       rw[List.getElem_map,HX.out,HM.out]
       refine HP.out _ _ [.string (markT (m))] (EG.mM (m:=m) (x0:=x0) hm0 aB) rfl aR (fun z hz=>?_) (fun z=>by simp[go_sem,hk1,uA,hf1]) (fun z hz=>?_) (J0 (by rw[Nat.mul_one];simp[go_sem,hk1,uA,z0]))
       . exact dP.same (S:=fun x=>x∉([])/\x≠b) (w:=wr) lL z ⟨(Dw.out z hz).1,(Dw.out z hz).2.1⟩ (hO.out.lt z (Dw.out z hz).2.2)
       . have n0:z≠o+i*1:=by omega
         rw[Nat.mul_one]at n0
         simp[go_sem,hk1,uA,n0]
      case measure=>simp[intOf];omega
    . have hd:decide ((i:Int)<(ks.length:Int))=false:=by simp;omega
      obtain rfl:i=ks.length:=by omega
      have SS:=hide (show cL wr L 1 A c (Dat.gC k (ks.map (fun x=>[Dat.str x])))from by have:=hO.out;rw[Dat.o6 _ _ _ aK]at this;exact this)
      go_wp2_with (fail)
      go_returns
      rw[List.take_of_length_le aK]
      exact⟨rfl,SS.out,hoff⟩
theorem mc (ks:List ByteArray) (S:Nat->Prop) (w:World) (A:Option Addr) (c:Nat) (k:Int) (hR:Row w S 1 A c (Dat.gC k (ks.map (fun x=>[Dat.str x])))) (h0:0<=k) (hb:k+(Dat.eh (ks.map (fun x=>[Dat.str x])):Nat)<=4611686018427387904) :
  Calls Tryz.prog 68 #[.slice A ks.length c,.int .i64 k] w fun e w'=>e=.returned (.int .i64 (k+(Dat.eh (ks.map (fun x=>[Dat.str x])):Nat)))/\cE w w':=by
 have HR:=hide hR
 have hlen:=hR.1
 have hcm:=hR.2.1
 simp only[Dat.fP,aj]at hlen
 unfold maxLen at hcm
 clear hR
 go_enter Tryz.func68,Tryz.ntmps68
 go_wp2_with (fail)
 go_loopw [1,5] (fun kv iv wr=>∃i:Nat,i<=ks.length/\iv=.int .i64 i/\kv=.int .i64 (k+(Dat.eh ((ks.map (fun x=>[Dat.str x])).take i):Nat))/\cE w wr) (fun _ iv _=>ks.length - (intOf iv).toNat)
 case atStart=>exact⟨0,Nat.zero_le _,rfl,by simp[Dat.eh],bl⟩
 case round =>
  obtain⟨i,hi,rfl,rfl,hbw⟩:=hrel
  rcases Nat.lt_or_ge i ks.length with hlt | hge
  ·
   have hd:decide ((i:Int)<(ks.length:Int))=true:=aD
   have hi0:0<=(i:Int):=aB
   have hi1:(i:Int)<(ks.length:Int):=aB
   obtain⟨x0,hx⟩:∃x0,ks[i]=x0:=⟨_,rfl⟩
   have HX:=hide hx
   have ht:=Dat.j3 (ks.map (fun x=>[Dat.str x])) i aN
   have hle:=Dat.mN (ks.map (fun x=>[Dat.str x])) (i+1)
   simp only[List.getElem_map,hx,EG.jS]at ht
   obtain⟨m,hm⟩:∃m:Int,k+(Dat.eh ((ks.map (fun x=>[Dat.str x])).take i):Nat)=m:=⟨_,rfl⟩
   have hm0:0<=m:=aB
   have hm1:m+1<=4611686018427387904:=aB
   have HE:=hide (show k+(Dat.eh ((ks.map (fun x=>[Dat.str x])).take (i+1)):Nat)=m+1 by omega)
   rw[hm]
   have HM:=hide hm
   obtain⟨b,o,vs,rfl,-,hb1,hv,hvl,hc⟩:=Row.at HR.out i bJ
   rw[Dat.oK _ k i aN,List.getElem_map,hx,hm]at hv
   obtain rfl:=EG.lD hv
   have z0:wr.cell? ⟨b,o+i*1,none⟩=some (.string (markT (m))):=by rw[hbw.box b hb1];simpa using hc 0 aF
   simp only[Nat.mul_one]at z0
   have hblt:b<wr.heap.size:=ak hb1 hbw.size
   clear hv hc hx ht hle hm
   go_wp2_with (fail)
   go_region_held3 (fun w'=>w'.cell? ⟨b,o+i,none⟩=some (.string (markT (m)))) (go_keep) (first | (go_at_call 118;refine (lF _ _ aB aB).mono ?_;rintro e Zk ⟨rfl,lA⟩;(have Nl:=lA.sz;obtain⟨Dz,DA,DB,DC⟩:=lA.lay (b))))
   go_wp2_with (fail)
   all_goals
    go_roundw
    case rel=>exact⟨i+1,by omega,by go_num,bB,bl⟩
    case measure=>simp[intOf];omega
  ·
   have hd:decide ((i:Int)<(ks.length:Int))=false:=aD
   obtain rfl:i=ks.length:=by omega
   go_wp2_with (fail)
   go_returns
   rw[List.take_of_length_le aK]
   exact⟨rfl,hbw⟩
theorem cA.gV {w:World} {L:List Nat} {x0:ByteArray} {x1:List ByteArray} {x2:Int} {vs:List Value} (h:Dat.dB w L (cA.mk x0 x1 x2).D vs):∃A1 c1 L1,L=L1/\vs=[.string x0,.slice A1 x1.length c1,.int .i64 x2]/\x0.size<=maxLen/\cL w L1 1 A1 c1 (x1.map (fun x=>[Dat.str x]))/\fD x2:=by
 rw[cA.fU]at h
 have hl:=h.length
 match vs,hl,h with
 | [u0,u1,u2],_,h =>
 simp only[Dat.dB]at h
 obtain⟨M0,N0,e0,h0,M1,N1,e1,h1,M2,N2,e2,h2,en⟩:=h
 subst en
 subst e2
 subst e1
 subst e0
 obtain⟨rfl,rfl,g0⟩:=Dat.lE.1 h0
 obtain⟨A1,c1,rfl,g1⟩:=Dat.gB.1 h1
 obtain⟨rfl,rfl,g2⟩:=Dat.fh.1 h2
 exact⟨A1,c1,M1,by simp only[List.nil_append,List.append_nil],by simp only[aj],g0,g1,g2⟩
theorem cA.jQ {w:World} {x0:ByteArray} {x1:List ByteArray} {x2:Int} {A1:Option Addr} {c1:Nat} {L1:List Nat} (h0:x0.size<=maxLen) (h1:cL w L1 1 A1 c1 (x1.map (fun x=>[Dat.str x]))) (h2:fD x2):Dat.dB w (L1) (cA.mk x0 x1 x2).D [.string x0,.slice A1 x1.length c1,.int .i64 x2]:=by
 rw[cA.fU]
 exact⟨[],_,(List.nil_append _).symm,Dat.lE.2 ⟨rfl,rfl,h0⟩,⟨L1,_,(List.append_nil _).symm,Dat.gB.2 ⟨_,_,by simp only[aj],h1⟩,⟨[],_,(List.nil_append _).symm,Dat.fh.2 ⟨rfl,rfl,h2⟩,rfl⟩⟩⟩
def uP (t:cA):Prop:=∀(S:Nat->Prop) (w:World) (vs:List Value),Dat.cC w S t.D vs->Dat.mg t.D<=1048576 ->
 Calls Tryz.prog 111 #[.agg vs.toArray] w (zW w t.D)
theorem xk (ks:List cA) (IH:∀(i:Nat) (hi:i<ks.length),uP ks[i]) (S:Nat->Prop) (w:World) (A:Option Addr) (c:Nat) (hR:Row w S 3 A c (ks.map cA.D)) (hwt:ks.length+Dat.jE (ks.map cA.D)<=1048576) :
    Calls Tryz.prog 53 #[.slice A ks.length c] w (rL w 3 (ks.map cA.D)):=by
  have uN:=hide IH
  have HR:=hide hR
  have hlen:=hR.1
  have hcm:=hR.2.1
  simp only[aj]at hlen
  unfold maxLen at hcm
  clear IH hR
  obtain⟨cur,mL,hmk⟩:=kZ (P:=Tryz.prog) (t:=25) (e:=109) (k:=3) ks.length aB Tryz.underlying25 aC
  have HC:=hide mL
  clear mL
  have HW:=hide hwt
  clear hwt
  go_enter Tryz.func53,Tryz.ntmps53
  go_wp2_with (fail)
  have HF:=hide (ez.start w 109 3 ks.length HC.out)
  clear hmk
  go_loopw [4] (fun iv wr=>∃k:Nat,k<=ks.length/\iv=.int .i64 k/\ez wr w.heap.size 109 3 ks.length ((ks.map cA.D).take k)/\cE w wr) (fun iv _=>ks.length - (intOf iv).toNat)
  case atStart=>exact⟨0,Nat.zero_le _,rfl,HF.out,bl⟩
  case round =>
    obtain⟨k,hk,rfl,hF,hbw⟩:=hrel
    have lO:=hide hF
    have hgl:=hF.lt
    clear hF HF
    rcases Nat.lt_or_ge k ks.length with hlt | hge
    . have hd:decide ((k:Int)<(ks.length:Int))=true:=by simp;omega
      have hi0:0<=(k:Int):=aB
      have hi1:(k:Int)<(ks.length:Int):=aB
      (obtain⟨b1,o1,cH,cM,cN,Ad,xW,hA1,hS1,hl1,hx1,hv1,eY,eG,fa,db,de,dq⟩:=cA.at HR.out k hlt;subst hA1;have jh:=hide (Dat.cC.bel hbw hv1);have hh1:=hbw.box b1 hl1;have hw1:=ak hl1 (cE.size hbw);replace db:=(hh1 _).trans db;replace de:=(hh1 _).trans de;replace dq:=(hh1 _).trans dq;have gv:=hide hx1;have kX:=hide eG;clear hh1 hv1 hx1 hS1 eG)
      have hw:=hide (Dat.jZ (ks.map cA.D) k aN)
      have hw':=hide (Dat.ng (ks.map cA.D) (k+1))
      have hwk:Dat.mg ks[k].D<=1048576:=by have a:=hw.out;have b:=hw'.out;have c:=HW.out;rw[List.getElem_map]at a;omega
      go_wp2_with (fail)
      refine (uN.out k hlt S _ _ (Dat.cC.bel bl jh.out) hwk).mono ?_
      rintro e w1 ⟨vs',L',rfl,hv',hnd',zX,hb1⟩
      have HN':=hide hnd'
      have Zj:=hide zX
      clear hnd' zX
      have GO:=hide hv'
      rw[gv.out]at hv'
      obtain⟨A1,c1,rfl,-⟩:=cA.vals (Dat.dB.vals (S:=fun _=>True) (fun _ _=>trivial) hv')
      clear hv'
      obtain⟨y0,e0⟩:=(ez.bel lO.out (show cE _ w1 from bl)).cell (i:=k*3) aB
      obtain⟨y1,e1⟩:=(ez.bel lO.out (show cE _ w1 from bl)).cell (i:=k*3+1) aB
      obtain⟨y2,e2⟩:=(ez.bel lO.out (show cE _ w1 from bl)).cell (i:=k*3+2) aB
      have f0:=(ez.bel lO.out (show cE _ w1 from bl)).free (k*3)
      have f1:=(ez.bel lO.out (show cE _ w1 from bl)).free (k*3+1)
      have f2:=(ez.bel lO.out (show cE _ w1 from bl)).free (k*3+2)
      go_wp2_with (fail)
      go_roundw
      case rel =>
       exact⟨k+1,by omega,by go_num,ez.MI lO.out hlt rfl bl (Dat.dB.bel bl GO.out) HN'.out (fun b hb=>Zj.out b hb),bl⟩
      case measure=>simp[intOf];omega
    . have hd:decide ((k:Int)<(ks.length:Int))=false:=by simp;omega
      go_wp2_with (fail)
      go_returns
      obtain⟨L,q1,q2,q3⟩:=ez.done lO.out hge rfl aV
      exact⟨some ⟨w.heap.size,0,none⟩,ks.length,L,by rw[aj];rfl,q1,q2,q3,hbw⟩
theorem xl:∀t:cA,uP t:=by
 rintro⟨x0,x1,x2⟩
 intro S w vs hv hwt
 obtain⟨A1,c1,rfl,g0,hR1,g2⟩:=cA.vals hv
 have R1:=hide hR1
 rw[cA.fU]at hwt
 simp only[Dat.mg,Dat.wt,aj]at hwt
 have hw1:x1.length+Dat.jE (x1.map (fun x=>[Dat.str x]))<=1048576:=aB
 clear hv hwt hR1
 unfold maxLen at g0
 go_enter Tryz.func111,Tryz.ntmps111
 go_wp2_with (fail)
 refine (mO x1 S _ _ _ (Row.bel bl R1.out) hw1).mono ?_
 rintro e w1 ⟨B1,d1,L1,rfl,J1,hN1,hL1,hb1⟩
 (have hz1:=hb1.sz;obtain⟨eA,fb,fc,fA⟩:=hb1.lay (w.heap.size);obtain⟨ff,fE,fR,fS⟩:=hb1.lay (w.heap.size+1);obtain⟨iM,jx,ko,kp⟩:=hb1.lay (w.heap.size+1+1))
 have N1:=hide hN1
 have V1:=hide (show ∀b,b∈L1->w.heap.size+2<b from fun b hb=>by have:=hL1 b hb;(try simp only[World.size_alloc,World.size_setCell,World.size_drew,World.heap_drewN]at this);omega)
 have U1:=hide hL1
 have T1:=hide (J1.lt)
 have Q1:=hide J1
 clear J1 hN1 hL1
 go_wp2_with (fail)
 exact bodyPost_ret (v:=.agg #[.string x0,.slice B1 x1.length d1,.int .i64 x2]) (by simp[results,Tryz.results111,go_sem,ff,fE,iM,jx]) rfl
  ⟨[.string x0,.slice B1 x1.length d1,.int .i64 x2],L1,rfl,cA.jQ aV (cL.gL (S:=fun b=>w.heap.size+2<b) lL (fun b hb=>V1.out b hb) Q1.out) g2,N1.out,fun b hb=>by have:=V1.out b hb;omega,bl⟩
theorem wO (ks:List cA) (S:Nat->Prop) (w:World) (A:Option Addr) (c:Nat) (hR:Row w S 3 A c (ks.map cA.D)) (hwt:ks.length+Dat.jE (ks.map cA.D)<=1048576) :
  Calls Tryz.prog 53 #[.slice A ks.length c] w (rL w 3 (ks.map cA.D)):=xk ks (fun _ _=>xl _) S w A c hR hwt
theorem cA.jS {x0:ByteArray} {x1:List ByteArray} {x2:Int}:Dat.mF (cA.mk x0 x1 x2).D=2+Dat.eh (x1.map (fun x=>[Dat.str x])):=by
 simp only[cA.fU,Dat.mF,Dat.cnt];(try omega)
theorem cA.mM {w:World} {m:Int} {x0:ByteArray} {x1:List ByteArray} {x2:Int} {A1:Option Addr} {c1:Nat} {L1:List Nat} (h0:0<=m) (hm:m+(2+Dat.eh (x1.map (fun x=>[Dat.str x])):Nat)<=4611686018427387904) (h1:cL w L1 1 A1 c1 (Dat.gC (m+1) (x1.map (fun x=>[Dat.str x])))):Dat.dB w (L1) (Dat.ij m (cA.mk x0 x1 x2).D) [.string (markT (m)),.slice A1 x1.length c1,.int .i64 (m+1+(Dat.eh (x1.map (fun x=>[Dat.str x])):Nat))]:=by
 have e:Dat.ij m (cA.mk x0 x1 x2).D=[.str (markT (m)),.row 1 (Dat.gC (m+1) (x1.map (fun x=>[Dat.str x]))),.int (m+1+(Dat.eh (x1.map (fun x=>[Dat.str x])):Nat))]:=by
  simp only[cA.fU,Dat.ij,Dat.mark,Dat.cnt]
  first | done | rfl | (simp only[Nat.jJ];done) | (simp;done) | (push_cast;simp)
 rw[e]
 exact⟨[],_,(List.nil_append _).symm,Dat.lE.2 ⟨rfl,rfl,al (wN _) aV⟩,⟨L1,_,(List.append_nil _).symm,Dat.gB.2 ⟨_,_,by simp only[Dat.fP,aj],h1⟩,⟨[],_,(List.nil_append _).symm,Dat.fh.2 ⟨rfl,rfl,fD.of_le aB aB⟩,rfl⟩⟩⟩
theorem cA.oA:∀t:cA,Dat.mF t.D<=16+16*Dat.mg t.D:=by
 rintro⟨x0,x1,x2⟩
 have r1:=jv (fun x=>[Dat.str x]) x1 (fun i hi=>by simp[Dat.mF,Dat.cnt];omega)
 rw[cA.jS,cA.fU]
 simp only[Dat.mg,Dat.wt,aj]
 omega
theorem cA.lD {w:World} {S:Nat->Prop} {m:Int} {x0:ByteArray} {x1:List ByteArray} {x2:Int} {vs:List Value} (h:Dat.cC w S (Dat.ij m (cA.mk x0 x1 x2).D) vs):∃A1 c1,vs=[.string (markT (m)),.slice A1 x1.length c1,.int .i64 (m+1+(Dat.eh (x1.map (fun x=>[Dat.str x])):Nat))]/\Row w S 1 A1 c1 (Dat.gC (m+1) (x1.map (fun x=>[Dat.str x]))):=by
 have e:Dat.ij m (cA.mk x0 x1 x2).D=[.str (markT (m)),.row 1 (Dat.gC (m+1) (x1.map (fun x=>[Dat.str x]))),.int (m+1+(Dat.eh (x1.map (fun x=>[Dat.str x])):Nat))]:=by
  simp only[cA.fU,Dat.ij,Dat.mark,Dat.cnt]
  first | done | rfl | (simp only[Nat.jJ];done) | (simp;done) | (push_cast;simp)
 rw[e]at h
 match vs,h with
 | [u0,u1,u2],h =>
 simp only[Dat.cC]at h
 obtain⟨h0,h1,h2,-⟩:=h
 obtain⟨rfl,-⟩:=Dat.gz.1 h0
 obtain⟨A1,c1,rfl,g1⟩:=Dat.fo.1 h1
 obtain⟨rfl,-⟩:=Dat.dA.1 h2
 exact⟨A1,c1,by simp only[Dat.fP,aj],g1⟩
theorem uB (ks:List cA) (L:List Nat) (w:World) (A:Option Addr) (c:Nat) (k:Int) (hR:cL w L 3 A c (ks.map cA.D)) (hnd:L.Nodup) (h0:0<=k) (hb:k+(Dat.eh (ks.map cA.D):Nat)<=4611686018427387904) :
    Calls Tryz.prog 64 #[.slice A ks.length c,.int .i64 k] w (zZ w L 3 A c k (ks.map cA.D)):=by
  have HR:=hide hR
  have HN:=hide hnd
  have hlen:=hR.1
  have hcm:=hR.2.1
  simp only[aj]at hlen
  unfold maxLen at hcm
  clear hR hnd
  go_enter Tryz.func64,Tryz.ntmps64
  go_wp2_with (fail)
  go_loopw [1,5] (fun kv iv wr=>∃i:Nat,i<=ks.length/\iv=.int .i64 i/\kv=.int .i64 (k+(Dat.eh ((ks.map cA.D).take i):Nat))/\Hid (cL wr L 3 A c (Dat.lz k i (ks.map cA.D)))/\dP (fun x=>x∉L) w wr) (fun _ iv _=>ks.length - (intOf iv).toNat)
  case atStart=>exact⟨0,Nat.zero_le _,rfl,by simp[Dat.eh],bP,lL⟩
  case round =>
    obtain⟨i,hi,rfl,rfl,hO,hoff⟩:=hrel
    rcases Nat.lt_or_ge i ks.length with hlt | hge
    . have hd:decide ((i:Int)<(ks.length:Int))=true:=by simp;omega
      have hi0:0<=(i:Int):=aB
      have hi1:(i:Int)<(ks.length:Int):=aB
      obtain⟨x0,x1,x2,hx⟩:∃x0 x1 x2,ks[i]=.mk x0 x1 x2:=by cases ks[i];exact⟨_,_,_,rfl⟩
      have HX:=hide hx
      have ht:=Dat.j3 (ks.map cA.D) i aN
      have hle:=Dat.mN (ks.map cA.D) (i+1)
      simp only[List.getElem_map,hx,cA.jS]at ht
      obtain⟨q1,hq1⟩:∃q,Dat.eh (x1.map (fun x=>[Dat.str x]))=q:=⟨_,rfl⟩
      simp only[hq1]at ht
      obtain⟨m,hm⟩:∃m:Int,k+(Dat.eh ((ks.map cA.D).take i):Nat)=m:=⟨_,rfl⟩
      have hm0:0<=m:=aB
      have hm1:m+2+(q1:Nat)<=4611686018427387904:=aB
      have HE:=hide (show k+(Dat.eh ((ks.map cA.D).take (i+1)):Nat)=m+2+(q1:Nat) by omega)
      rw[hm]
      have HM:=hide hm
      have rA:=hide hq1
      obtain⟨b,o,L1,Le,L2,vs,rfl,hb1,hf1,Du,hv,hvl,hc,hput⟩:=cL.at hO.out i bD
      rw[Dat.o0 k i _ aN,List.getElem_map,hx]at hv
      obtain⟨A1,c1,oU,IP,rfl,g0,g1,g2⟩:=cA.gV hv
      have Dv:=IP.symm
      clear IP
      subst Dv
      have z0:wr.cell? ⟨b,o+i*3,none⟩=some (.string x0):=by simpa using hc 0 aF
      have z1:wr.cell? ⟨b,o+i*3+1,none⟩=some (.slice A1 x1.length c1):=by simpa using hc 1 aF
      have z2:wr.cell? ⟨b,o+i*3+2,none⟩=some (.int .i64 x2):=by simpa using hc 2 aF
      obtain⟨hbL,xi,GP,xj,hrest⟩:=qS Du HN.out
      have YW:=hide xj
      have HI1:=hide (show ∀x,x∈oU->x∈(oU)from fun x h=>by simp[h])
      have YZ:b∉oU:=fun h=>GP (HI1.out b h)
      have G1:=hide g1
      unfold maxLen at g0
      have HP:=hide hput
      have HLe:=hide Du
      have HL2:=hide xi
      have Dw:=hide hrest
      clear hv hc hx ht hle hm hq1 xj g1 hput Du xi hrest
      go_wp2_with (fail)
      refine (lF _ _ aB aB).mono ?_
      rintro e w1 ⟨rfl,lA⟩
      have hz1:=lA.size
      (try simp only[World.size_alloc,World.size_setCell,World.size_drew,World.heap_drewN]at hz1)
      have hk1:=lA.box b aM
      have uA:=lA.De b aM
      have hl1:b<w1.heap.size:=aB
      go_wp2_with (fail)
      refine (ma x1 oU _ A1 c1 _ (cL.gL (S:=fun x=>x∈oU) (w:=wr) lL (fun x hx=>hx) G1.out) YW.out aB (by rw[rA.out];omega)).mono ?_
      rintro e w2 ⟨rfl,hO1,ho2⟩
      rw[rA.out]
      have HO1:=hide hO1
      clear hO1
      have hz2:=ho2.size
      (try simp only[World.size_alloc,World.size_setCell,World.size_drew,World.heap_drewN]at hz2)
      have zO:=ho2.same b YZ aM
      have hk2:=zO.1
      have Ey:=zO.2
      have hl2:b<w2.heap.size:=aB
      have ab7:=dP.narrow (S':=fun x=>x∉L) ho2 (fun x hx h=>hx (HL2.out x (HI1.out x h)))
      have ahb:=dP.narrow (S':=fun x=>x∉(oU)/\x≠b) ho2 (fun x hx h=>hx.1 (HI1.out x h))
      clear zO ho2
      go_wp2_with (fail)
      go_roundw
      case rel =>
       refine⟨i+1,by omega,by go_num,by rw[HE.out];first | done | go_num,?_,lL⟩
       rw[<-Dat.nS k i _ aN]
       refine hide ?_
       rw[List.getElem_map,HX.out,HM.out]
       refine HP.out _ _ [.string (markT (m)),.slice A1 x1.length c1,.int .i64 (m+1+(q1:Nat))] (by (try simp only[<-rA.out]);exact cA.mM (m:=m) (x0:=x0) (x1:=x1) (x2:=x2) (A1:=A1) (c1:=c1) (L1:=oU) hm0 (by (try simp only[rA.out]);omega) (by (try simp only[rA.out]);exact cL.gL (S:=fun x=>x∈oU) (w:=w2) lL (fun x hx=>hx) HO1.out)) rfl aR (fun z hz=>?_) (fun z=>by simp[go_sem,hk1,uA,hk2,Ey,hf1]) (fun z hz=>?_) (J2 cd cd cd)
       . exact dP.same (S:=fun x=>x∉(oU)/\x≠b) (w:=wr) lL z ⟨(Dw.out z hz).1,(Dw.out z hz).2.1⟩ (hO.out.lt z (Dw.out z hz).2.2)
       . have n0:z≠o+i*3:=by omega
         have n1:z≠o+i*3+1:=aB
         have n2:z≠o+i*3+2:=aB
         simp[go_sem,hk1,uA,hk2,Ey,n0,n1,n2]
      case measure=>simp[intOf];omega
    . have hd:decide ((i:Int)<(ks.length:Int))=false:=by simp;omega
      obtain rfl:i=ks.length:=by omega
      have SS:=hide (show cL wr L 3 A c (Dat.gC k (ks.map cA.D))from by have:=hO.out;rw[Dat.o6 _ _ _ aK]at this;exact this)
      go_wp2_with (fail)
      go_returns
      rw[List.take_of_length_le aK]
      exact⟨rfl,SS.out,hoff⟩
theorem uC (ks:List cA) (S:Nat->Prop) (w:World) (A:Option Addr) (c:Nat) (k:Int) (hR:Row w S 3 A c (Dat.gC k (ks.map cA.D))) (h0:0<=k) (hb:k+(Dat.eh (ks.map cA.D):Nat)<=4611686018427387904) :
  Calls Tryz.prog 69 #[.slice A ks.length c,.int .i64 k] w fun e w'=>e=.returned (.int .i64 (k+(Dat.eh (ks.map cA.D):Nat)))/\cE w w':=by
 have HR:=hide hR
 have hlen:=hR.1
 have hcm:=hR.2.1
 simp only[Dat.fP,aj]at hlen
 unfold maxLen at hcm
 clear hR
 go_enter Tryz.func69,Tryz.ntmps69
 go_wp2_with (fail)
 go_loopw [1,5] (fun kv iv wr=>∃i:Nat,i<=ks.length/\iv=.int .i64 i/\kv=.int .i64 (k+(Dat.eh ((ks.map cA.D).take i):Nat))/\cE w wr) (fun _ iv _=>ks.length - (intOf iv).toNat)
 case atStart=>exact⟨0,Nat.zero_le _,rfl,by simp[Dat.eh],bl⟩
 case round =>
  obtain⟨i,hi,rfl,rfl,hbw⟩:=hrel
  rcases Nat.lt_or_ge i ks.length with hlt | hge
  ·
   have hd:decide ((i:Int)<(ks.length:Int))=true:=aD
   have hi0:0<=(i:Int):=aB
   have hi1:(i:Int)<(ks.length:Int):=aB
   obtain⟨x0,x1,x2,hx⟩:∃x0 x1 x2,ks[i]=.mk x0 x1 x2:=by cases ks[i];exact⟨_,_,_,rfl⟩
   have HX:=hide hx
   have ht:=Dat.j3 (ks.map cA.D) i aN
   have hle:=Dat.mN (ks.map cA.D) (i+1)
   simp only[List.getElem_map,hx,cA.jS]at ht
   obtain⟨q1,hq1⟩:∃q,Dat.eh (x1.map (fun x=>[Dat.str x]))=q:=⟨_,rfl⟩
   simp only[hq1]at ht
   obtain⟨m,hm⟩:∃m:Int,k+(Dat.eh ((ks.map cA.D).take i):Nat)=m:=⟨_,rfl⟩
   have hm0:0<=m:=aB
   have hm1:m+2+(q1:Nat)<=4611686018427387904:=aB
   have HE:=hide (show k+(Dat.eh ((ks.map cA.D).take (i+1)):Nat)=m+2+(q1:Nat) by omega)
   rw[hm]
   have HM:=hide hm
   have rA:=hide hq1
   obtain⟨b,o,vs,rfl,-,hb1,hv,hvl,hc⟩:=Row.at HR.out i bJ
   rw[Dat.oK _ k i aN,List.getElem_map,hx,hm]at hv
   obtain⟨A1,c1,rfl,g1⟩:=cA.lD hv
   have z0:wr.cell? ⟨b,o+i*3,none⟩=some (.string (markT (m))):=by rw[hbw.box b hb1];simpa using hc 0 aF
   have z1:wr.cell? ⟨b,o+i*3+1,none⟩=some (.slice A1 x1.length c1):=by rw[hbw.box b hb1];simpa using hc 1 aF
   have z2:wr.cell? ⟨b,o+i*3+2,none⟩=some (.int .i64 (m+1+(Dat.eh (x1.map (fun x=>[Dat.str x])):Nat))):=by rw[hbw.box b hb1];simpa using hc 2 aF
   have G1:=hide g1
   simp only[hq1]at z0 z1 z2
   have hblt:b<wr.heap.size:=ak hb1 hbw.size
   clear hv hc hx ht hle hm hq1 g1
   go_wp2_with (fail)
   go_region_held3 (fun w'=>w'.cell? ⟨b,o+i*3,none⟩=some (.string (markT (m)))) (go_keep) (first | (go_at_call 118;refine (lF _ _ aB aB).mono ?_;rintro e Zk ⟨rfl,lA⟩;(have Nl:=lA.sz;obtain⟨Dz,DA,DB,DC⟩:=lA.lay (b))))
   go_wp2_with (fail)
   refine (mc x1 S _ A1 c1 _ (Row.bel (w:=w) bl (by have:=G1.out;(try simp only[rA.out]at this);exact this)) aB (by rw[rA.out];omega)).mono ?_
   rintro e ahc ⟨rfl,EF⟩;rw[rA.out];(have acu:=EF.sz;obtain⟨SU,SV,SX,SY⟩:=EF.lay (b))
   go_wp2_with (fail)
   all_goals
    go_roundw
    case rel=>exact⟨i+1,by omega,by go_num,bB,bl⟩
    case measure=>simp[intOf];omega
  ·
   have hd:decide ((i:Int)<(ks.length:Int))=false:=aD
   obtain rfl:i=ks.length:=by omega
   go_wp2_with (fail)
   go_returns
   rw[List.take_of_length_le aK]
   exact⟨rfl,hbw⟩
theorem cv.gV {w:World} {L:List Nat} {x0:List ByteArray} {x1:List cA} {x2:List cz} {x3:List cw} {x4:ByteArray} {x5:Int} {x6:List ByteArray} {x7:List ByteArray} {x8:List cJ} {x9:Bool} {x10:Int} {x11:Int} {x12:Int} {vs:List Value} (h:Dat.dB w L (cv.mk x0 x1 x2 x3 x4 x5 x6 x7 x8 x9 x10 x11 x12).D vs):∃A0 c0 L0 A1 c1 L1 A2 c2 L2 A3 c3 L3 A6 c6 L6 A7 c7 L7 A8 c8 L8,L=L0++(L1++(L2++(L3++(L6++(L7++L8)))))/\vs=[.slice A0 x0.length c0,.slice A1 x1.length c1,.slice A2 x2.length c2,.slice A3 x3.length c3,.string x4,.int .i64 x5,.slice A6 x6.length c6,.slice A7 x7.length c7,.slice A8 x8.length c8,.bool x9,.int .i64 x10,.int .i64 x11,.int .i64 x12]/\cL w L0 1 A0 c0 (x0.map (fun x=>[Dat.str x]))/\cL w L1 3 A1 c1 (x1.map cA.D)/\cL w L2 5 A2 c2 (x2.map cz.D)/\cL w L3 6 A3 c3 (x3.map cw.D)/\x4.size<=maxLen/\fD x5/\cL w L6 1 A6 c6 (x6.map (fun x=>[Dat.str x]))/\cL w L7 1 A7 c7 (x7.map (fun x=>[Dat.str x]))/\cL w L8 2 A8 c8 (x8.map cJ.D)/\True/\fD x10/\fD x11/\fD x12:=by
 rw[cv.fU]at h
 have hl:=h.length
 obtain⟨u0,u1,u2,u3,u4,u5,u6,u7,u8,u9,u10,u11,u12,rfl⟩:=IA (hl.trans rfl)
 clear hl
 simp only[Dat.dB]at h
 obtain⟨M0,N0,e0,h0,M1,N1,e1,h1,M2,N2,e2,h2,M3,N3,e3,h3,M4,N4,e4,h4,M5,N5,e5,h5,M6,N6,e6,h6,M7,N7,e7,h7,M8,N8,e8,h8,M9,N9,e9,h9,M10,N10,e10,h10,M11,N11,e11,h11,M12,N12,e12,h12,en⟩:=h
 subst en
 subst e12
 subst e11
 subst e10
 subst e9
 subst e8
 subst e7
 subst e6
 subst e5
 subst e4
 subst e3
 subst e2
 subst e1
 subst e0
 obtain⟨A0,c0,rfl,g0⟩:=Dat.gB.1 h0
 obtain⟨A1,c1,rfl,g1⟩:=Dat.gB.1 h1
 obtain⟨A2,c2,rfl,g2⟩:=Dat.gB.1 h2
 obtain⟨A3,c3,rfl,g3⟩:=Dat.gB.1 h3
 obtain⟨rfl,rfl,g4⟩:=Dat.lE.1 h4
 obtain⟨rfl,rfl,g5⟩:=Dat.fh.1 h5
 obtain⟨A6,c6,rfl,g6⟩:=Dat.gB.1 h6
 obtain⟨A7,c7,rfl,g7⟩:=Dat.gB.1 h7
 obtain⟨A8,c8,rfl,g8⟩:=Dat.gB.1 h8
 obtain⟨rfl,rfl⟩:=Dat.xm.1 h9
 obtain⟨rfl,rfl,g10⟩:=Dat.fh.1 h10
 obtain⟨rfl,rfl,g11⟩:=Dat.fh.1 h11
 obtain⟨rfl,rfl,g12⟩:=Dat.fh.1 h12
 exact⟨A0,c0,M0,A1,c1,M1,A2,c2,M2,A3,c3,M3,A6,c6,M6,A7,c7,M7,A8,c8,M8,by simp only[List.nil_append,List.append_nil],by simp only[aj],g0,g1,g2,g3,g4,g5,g6,g7,g8,trivial,g10,g11,g12⟩
theorem cv.jQ {w:World} {x0:List ByteArray} {x1:List cA} {x2:List cz} {x3:List cw} {x4:ByteArray} {x5:Int} {x6:List ByteArray} {x7:List ByteArray} {x8:List cJ} {x9:Bool} {x10:Int} {x11:Int} {x12:Int} {A0:Option Addr} {c0:Nat} {L0:List Nat} {A1:Option Addr} {c1:Nat} {L1:List Nat} {A2:Option Addr} {c2:Nat} {L2:List Nat} {A3:Option Addr} {c3:Nat} {L3:List Nat} {A6:Option Addr} {c6:Nat} {L6:List Nat} {A7:Option Addr} {c7:Nat} {L7:List Nat} {A8:Option Addr} {c8:Nat} {L8:List Nat} (h0:cL w L0 1 A0 c0 (x0.map (fun x=>[Dat.str x]))) (h1:cL w L1 3 A1 c1 (x1.map cA.D)) (h2:cL w L2 5 A2 c2 (x2.map cz.D)) (h3:cL w L3 6 A3 c3 (x3.map cw.D)) (h4:x4.size<=maxLen) (h5:fD x5) (h6:cL w L6 1 A6 c6 (x6.map (fun x=>[Dat.str x]))) (h7:cL w L7 1 A7 c7 (x7.map (fun x=>[Dat.str x]))) (h8:cL w L8 2 A8 c8 (x8.map cJ.D)) (h10:fD x10) (h11:fD x11) (h12:fD x12):Dat.dB w (L0++(L1++(L2++(L3++(L6++(L7++L8)))))) (cv.mk x0 x1 x2 x3 x4 x5 x6 x7 x8 x9 x10 x11 x12).D [.slice A0 x0.length c0,.slice A1 x1.length c1,.slice A2 x2.length c2,.slice A3 x3.length c3,.string x4,.int .i64 x5,.slice A6 x6.length c6,.slice A7 x7.length c7,.slice A8 x8.length c8,.bool x9,.int .i64 x10,.int .i64 x11,.int .i64 x12]:=by
 rw[cv.fU]
 exact⟨L0,_,rfl,Dat.gB.2 ⟨_,_,by simp only[aj],h0⟩,⟨L1,_,rfl,Dat.gB.2 ⟨_,_,by simp only[aj],h1⟩,⟨L2,_,rfl,Dat.gB.2 ⟨_,_,by simp only[aj],h2⟩,⟨L3,_,rfl,Dat.gB.2 ⟨_,_,by simp only[aj],h3⟩,⟨[],_,(List.nil_append _).symm,Dat.lE.2 ⟨rfl,rfl,h4⟩,⟨[],_,(List.nil_append _).symm,Dat.fh.2 ⟨rfl,rfl,h5⟩,⟨L6,_,rfl,Dat.gB.2 ⟨_,_,by simp only[aj],h6⟩,⟨L7,_,rfl,Dat.gB.2 ⟨_,_,by simp only[aj],h7⟩,⟨L8,_,(List.append_nil _).symm,Dat.gB.2 ⟨_,_,by simp only[aj],h8⟩,⟨[],_,(List.nil_append _).symm,Dat.xm.2 ⟨rfl,rfl⟩,⟨[],_,(List.nil_append _).symm,Dat.fh.2 ⟨rfl,rfl,h10⟩,⟨[],_,(List.nil_append _).symm,Dat.fh.2 ⟨rfl,rfl,h11⟩,⟨[],_,(List.nil_append _).symm,Dat.fh.2 ⟨rfl,rfl,h12⟩,rfl⟩⟩⟩⟩⟩⟩⟩⟩⟩⟩⟩⟩⟩
def Nn (t:cv):Prop:=∀(S:Nat->Prop) (w:World) (vs:List Value),Dat.cC w S t.D vs->Dat.mg t.D<=1048576 ->
 Calls Tryz.prog 17 #[.agg vs.toArray] w (zW w t.D)
theorem DE:∀t:cv,Nn t:=by
 rintro⟨x0,x1,x2,x3,x4,x5,x6,x7,x8,x9,x10,x11,x12⟩
 intro S w vs hv hwt
 obtain⟨A0,c0,A1,c1,A2,c2,A3,c3,A6,c6,A7,c7,A8,c8,rfl,hR0,hR1,hR2,xV,g4,g5,J3,J4,J5,-,g10,g11,g12⟩:=cv.vals hv
 have R0:=hide hR0
 have R1:=hide hR1
 have R2:=hide hR2
 have R3:=hide xV
 have R6:=hide J3
 have R7:=hide J4
 have R8:=hide J5
 rw[cv.fU]at hwt
 simp only[Dat.mg,Dat.wt,aj]at hwt
 have hw0:x0.length+Dat.jE (x0.map (fun x=>[Dat.str x]))<=1048576:=aB
 have hw1:x1.length+Dat.jE (x1.map cA.D)<=1048576:=aB
 have hw2:x2.length+Dat.jE (x2.map cz.D)<=1048576:=aB
 have hw3:x3.length+Dat.jE (x3.map cw.D)<=1048576:=aB
 have hw6:x6.length+Dat.jE (x6.map (fun x=>[Dat.str x]))<=1048576:=aB
 have hw7:x7.length+Dat.jE (x7.map (fun x=>[Dat.str x]))<=1048576:=aB
 have hw8:x8.length+Dat.jE (x8.map cJ.D)<=1048576:=aB
 clear hv hwt hR0 hR1 hR2 xV J3 J4 J5
 unfold maxLen at g4
 go_enter Tryz.func17,Tryz.ntmps17
 go_wp2_with (fail)
 refine (mO x0 S _ _ _ (Row.bel bl R0.out) hw0).mono ?_
 rintro e w1 ⟨B0,d0,L0,rfl,hQ0,hN0,hL0,hb1⟩
 (have hz1:=hb1.sz;obtain⟨eA,fb,fc,fA⟩:=hb1.lay (w.heap.size);obtain⟨ff,fE,fR,fS⟩:=hb1.lay (w.heap.size+1);obtain⟨iM,jx,ko,kp⟩:=hb1.lay (w.heap.size+1+1))
 have N0:=hide hN0
 have V0:=hide (show ∀b,b∈L0->w.heap.size+2<b from fun b hb=>by have:=hL0 b hb;(try simp only[World.size_alloc,World.size_setCell,World.size_drew,World.heap_drewN]at this);omega)
 have U0:=hide hL0
 have T0:=hide (hQ0.lt)
 have Q0:=hide hQ0
 clear hQ0 hN0 hL0
 go_wp2_with (fail)
 refine Calls.named fun W1 hW1=>?_
 have hB1:cE w W1:=by rw[<-hW1];exact bl
 have hZ1:=hB1.size
 have hY1:w.heap.size+1+1<W1.heap.size:=by rw[<-hW1];simp;omega
 have hV1:w1.heap.size<=W1.heap.size:=by rw[<-hW1];simp
 have acv:W1.cell? ⟨w.heap.size,1,none⟩=some (.slice A1 x1.length c1):=aU
 have Ux:W1.cell? ⟨w.heap.size,2,none⟩=some (.slice A2 x2.length c2):=aU
 have Uy:W1.cell? ⟨w.heap.size,3,none⟩=some (.slice A3 x3.length c3):=aU
 have Uz:W1.cell? ⟨w.heap.size,4,none⟩=some (.string x4):=aU
 have UA:W1.cell? ⟨w.heap.size,5,none⟩=some (.int .i64 x5):=aU
 have UB:W1.cell? ⟨w.heap.size,6,none⟩=some (.slice A6 x6.length c6):=aU
 have UC:W1.cell? ⟨w.heap.size,7,none⟩=some (.slice A7 x7.length c7):=aU
 have UD:W1.cell? ⟨w.heap.size,8,none⟩=some (.slice A8 x8.length c8):=aU
 have UE:W1.cell? ⟨w.heap.size,9,none⟩=some (.bool x9):=aU
 have Np:W1.cell? ⟨w.heap.size,10,none⟩=some (.int .i64 x10):=aU
 have Nq:W1.cell? ⟨w.heap.size,11,none⟩=some (.int .i64 x11):=aU
 have Nr:W1.cell? ⟨w.heap.size,12,none⟩=some (.int .i64 x12):=aU
 have fa1:∀o,W1.frozen? ⟨w.heap.size,o,none⟩=false:=by intro o;rw[<-hW1];simp[fb,go_sem]
 have UF:W1.cell? ⟨w.heap.size+1,0,none⟩=some (.slice none 0 0):=aS
 have UG:W1.cell? ⟨w.heap.size+1,1,none⟩=some (.slice none 0 0):=aS
 have UH:W1.cell? ⟨w.heap.size+1,2,none⟩=some (.slice none 0 0):=aS
 have UI:W1.cell? ⟨w.heap.size+1,3,none⟩=some (.slice none 0 0):=aS
 have UJ:W1.cell? ⟨w.heap.size+1,4,none⟩=some (.string ByteArray.empty):=aS
 have UK:W1.cell? ⟨w.heap.size+1,5,none⟩=some (.int .i64 0):=aS
 have UL:W1.cell? ⟨w.heap.size+1,6,none⟩=some (.slice none 0 0):=aS
 have UM:W1.cell? ⟨w.heap.size+1,7,none⟩=some (.slice none 0 0):=aS
 have UN:W1.cell? ⟨w.heap.size+1,8,none⟩=some (.slice none 0 0):=aS
 have UO:W1.cell? ⟨w.heap.size+1,9,none⟩=some (.bool false):=aS
 have Ns:W1.cell? ⟨w.heap.size+1,10,none⟩=some (.int .i64 0):=aS
 have Nt:W1.cell? ⟨w.heap.size+1,11,none⟩=some (.int .i64 0):=aS
 have Nu:W1.cell? ⟨w.heap.size+1,12,none⟩=some (.int .i64 0):=aS
 have fr1:∀o,W1.frozen? ⟨w.heap.size+1,o,none⟩=false:=by intro o;rw[<-hW1];simp[fE,go_sem]
 have UP:W1.cell? ⟨w.heap.size+1+1,0,none⟩=some (.slice B0 x0.length d0):=aT
 have UQ:W1.cell? ⟨w.heap.size+1+1,1,none⟩=some (.slice none 0 0):=aT
 have UR:W1.cell? ⟨w.heap.size+1+1,2,none⟩=some (.slice none 0 0):=aT
 have US:W1.cell? ⟨w.heap.size+1+1,3,none⟩=some (.slice none 0 0):=aT
 have UT:W1.cell? ⟨w.heap.size+1+1,4,none⟩=some (.string ByteArray.empty):=aT
 have UU:W1.cell? ⟨w.heap.size+1+1,5,none⟩=some (.int .i64 0):=aT
 have UW:W1.cell? ⟨w.heap.size+1+1,6,none⟩=some (.slice none 0 0):=aT
 have UX:W1.cell? ⟨w.heap.size+1+1,7,none⟩=some (.slice none 0 0):=aT
 have UY:W1.cell? ⟨w.heap.size+1+1,8,none⟩=some (.slice none 0 0):=aT
 have UZ:W1.cell? ⟨w.heap.size+1+1,9,none⟩=some (.bool false):=aT
 have Nv:W1.cell? ⟨w.heap.size+1+1,10,none⟩=some (.int .i64 0):=aT
 have Nw:W1.cell? ⟨w.heap.size+1+1,11,none⟩=some (.int .i64 0):=aT
 have Nx:W1.cell? ⟨w.heap.size+1+1,12,none⟩=some (.int .i64 0):=aT
 have fo1:∀o,W1.frozen? ⟨w.heap.size+1+1,o,none⟩=false:=by intro o;rw[<-hW1];simp[jx,go_sem]
 replace Q0:=hide (cL.gL (show dP (fun b=>w.heap.size+2<b) _ W1 by rw[<-hW1];exact lL) (fun b hb=>V0.out b hb) Q0.out)
 clear hW1 eA ff iM fb fE jx hb1
 refine (wO x1 S _ _ _ (Row.bel bl R1.out) hw1).mono ?_
 rintro e w2 ⟨B1,d1,L1,rfl,J1,hN1,hL1,hb2⟩
 (have hz2:=hb2.sz;obtain⟨gO,lJ,mG,mH⟩:=hb2.lay (w.heap.size);obtain⟨iW,nT,sn,su⟩:=hb2.lay (w.heap.size+1);obtain⟨jW,uO,Aa,Ab⟩:=hb2.lay (w.heap.size+1+1))
 have N1:=hide hN1
 have V1:=hide (show ∀b,b∈L1->w.heap.size+2<b from fun b hb=>by have:=hL1 b hb;(try simp only[World.size_alloc,World.size_setCell,World.size_drew,World.heap_drewN]at this);omega)
 have U1:=hide (show ∀b,b∈L1->w1.heap.size<=b from fun b hb=>by have:=hL1 b hb;(try simp only[World.size_alloc,World.size_setCell,World.size_drew,World.heap_drewN]at this);omega)
 have T1:=hide (J1.lt)
 have Q1:=hide J1
 clear J1 hN1 hL1
 go_wp2_with (fail)
 refine Calls.named fun W2 hW2=>?_
 have hB2:cE w W2:=by rw[<-hW2];exact bl
 have hZ2:=hB2.size
 have hY2:w.heap.size+1+1<W2.heap.size:=by rw[<-hW2];simp;omega
 have hV2:w2.heap.size<=W2.heap.size:=by rw[<-hW2];simp
 have sx:W2.cell? ⟨w.heap.size,2,none⟩=some (.slice A2 x2.length c2):=by rw[<-hW2];simp[gO,go_sem,Ux] <;> rfl
 have qV:W2.cell? ⟨w.heap.size,3,none⟩=some (.slice A3 x3.length c3):=by rw[<-hW2];simp[gO,go_sem,Uy] <;> rfl
 have qW:W2.cell? ⟨w.heap.size,4,none⟩=some (.string x4):=by rw[<-hW2];simp[gO,go_sem,Uz] <;> rfl
 have qX:W2.cell? ⟨w.heap.size,5,none⟩=some (.int .i64 x5):=by rw[<-hW2];simp[gO,go_sem,UA] <;> rfl
 have qY:W2.cell? ⟨w.heap.size,6,none⟩=some (.slice A6 x6.length c6):=by rw[<-hW2];simp[gO,go_sem,UB] <;> rfl
 have qZ:W2.cell? ⟨w.heap.size,7,none⟩=some (.slice A7 x7.length c7):=by rw[<-hW2];simp[gO,go_sem,UC] <;> rfl
 have q9:W2.cell? ⟨w.heap.size,8,none⟩=some (.slice A8 x8.length c8):=by rw[<-hW2];simp[gO,go_sem,UD] <;> rfl
 have ra:W2.cell? ⟨w.heap.size,9,none⟩=some (.bool x9):=by rw[<-hW2];simp[gO,go_sem,UE] <;> rfl
 have nh:W2.cell? ⟨w.heap.size,10,none⟩=some (.int .i64 x10):=by rw[<-hW2];simp[gO,go_sem,Np] <;> rfl
 have ni:W2.cell? ⟨w.heap.size,11,none⟩=some (.int .i64 x11):=by rw[<-hW2];simp[gO,go_sem,Nq] <;> rfl
 have nj:W2.cell? ⟨w.heap.size,12,none⟩=some (.int .i64 x12):=by rw[<-hW2];simp[gO,go_sem,Nr] <;> rfl
 have fa2:∀o,W2.frozen? ⟨w.heap.size,o,none⟩=false:=by intro o;rw[<-hW2];simp[lJ,go_sem,fa1]
 have U5:W2.cell? ⟨w.heap.size+1,0,none⟩=some (.slice none 0 0):=by rw[<-hW2];simp[iW,go_sem,UF] <;> rfl
 have U9:W2.cell? ⟨w.heap.size+1,1,none⟩=some (.slice none 0 0):=by rw[<-hW2];simp[iW,go_sem,UG] <;> rfl
 have Va:W2.cell? ⟨w.heap.size+1,2,none⟩=some (.slice none 0 0):=by rw[<-hW2];simp[iW,go_sem,UH] <;> rfl
 have Vb:W2.cell? ⟨w.heap.size+1,3,none⟩=some (.slice none 0 0):=by rw[<-hW2];simp[iW,go_sem,UI] <;> rfl
 have Vc:W2.cell? ⟨w.heap.size+1,4,none⟩=some (.string ByteArray.empty):=by rw[<-hW2];simp[iW,go_sem,UJ] <;> rfl
 have Vd:W2.cell? ⟨w.heap.size+1,5,none⟩=some (.int .i64 0):=by rw[<-hW2];simp[iW,go_sem,UK] <;> rfl
 have Ve:W2.cell? ⟨w.heap.size+1,6,none⟩=some (.slice none 0 0):=by rw[<-hW2];simp[iW,go_sem,UL] <;> rfl
 have Vf:W2.cell? ⟨w.heap.size+1,7,none⟩=some (.slice none 0 0):=by rw[<-hW2];simp[iW,go_sem,UM] <;> rfl
 have Vg:W2.cell? ⟨w.heap.size+1,8,none⟩=some (.slice none 0 0):=by rw[<-hW2];simp[iW,go_sem,UN] <;> rfl
 have Vh:W2.cell? ⟨w.heap.size+1,9,none⟩=some (.bool false):=by rw[<-hW2];simp[iW,go_sem,UO] <;> rfl
 have Ny:W2.cell? ⟨w.heap.size+1,10,none⟩=some (.int .i64 0):=by rw[<-hW2];simp[iW,go_sem,Ns] <;> rfl
 have Nz:W2.cell? ⟨w.heap.size+1,11,none⟩=some (.int .i64 0):=by rw[<-hW2];simp[iW,go_sem,Nt] <;> rfl
 have NA:W2.cell? ⟨w.heap.size+1,12,none⟩=some (.int .i64 0):=by rw[<-hW2];simp[iW,go_sem,Nu] <;> rfl
 have fr2:∀o,W2.frozen? ⟨w.heap.size+1,o,none⟩=false:=by intro o;rw[<-hW2];simp[nT,go_sem,fr1]
 have Vi:W2.cell? ⟨w.heap.size+1+1,0,none⟩=some (.slice B0 x0.length d0):=by rw[<-hW2];simp[jW,go_sem,UP] <;> rfl
 have Vj:W2.cell? ⟨w.heap.size+1+1,1,none⟩=some (.slice B1 x1.length d1):=by rw[<-hW2];simp[jW,go_sem,UQ] <;> rfl
 have Vk:W2.cell? ⟨w.heap.size+1+1,2,none⟩=some (.slice none 0 0):=by rw[<-hW2];simp[jW,go_sem,UR] <;> rfl
 have Vl:W2.cell? ⟨w.heap.size+1+1,3,none⟩=some (.slice none 0 0):=by rw[<-hW2];simp[jW,go_sem,US] <;> rfl
 have Vm:W2.cell? ⟨w.heap.size+1+1,4,none⟩=some (.string ByteArray.empty):=by rw[<-hW2];simp[jW,go_sem,UT] <;> rfl
 have Vn:W2.cell? ⟨w.heap.size+1+1,5,none⟩=some (.int .i64 0):=by rw[<-hW2];simp[jW,go_sem,UU] <;> rfl
 have Vo:W2.cell? ⟨w.heap.size+1+1,6,none⟩=some (.slice none 0 0):=by rw[<-hW2];simp[jW,go_sem,UW] <;> rfl
 have Vp:W2.cell? ⟨w.heap.size+1+1,7,none⟩=some (.slice none 0 0):=by rw[<-hW2];simp[jW,go_sem,UX] <;> rfl
 have Vq:W2.cell? ⟨w.heap.size+1+1,8,none⟩=some (.slice none 0 0):=by rw[<-hW2];simp[jW,go_sem,UY] <;> rfl
 have Vr:W2.cell? ⟨w.heap.size+1+1,9,none⟩=some (.bool false):=by rw[<-hW2];simp[jW,go_sem,UZ] <;> rfl
 have NB:W2.cell? ⟨w.heap.size+1+1,10,none⟩=some (.int .i64 0):=by rw[<-hW2];simp[jW,go_sem,Nv] <;> rfl
 have NC:W2.cell? ⟨w.heap.size+1+1,11,none⟩=some (.int .i64 0):=by rw[<-hW2];simp[jW,go_sem,Nw] <;> rfl
 have ND:W2.cell? ⟨w.heap.size+1+1,12,none⟩=some (.int .i64 0):=by rw[<-hW2];simp[jW,go_sem,Nx] <;> rfl
 have fo2:∀o,W2.frozen? ⟨w.heap.size+1+1,o,none⟩=false:=by intro o;rw[<-hW2];simp[uO,go_sem,fo1]
 replace Q0:=hide (cL.gL (show dP (fun b=>w.heap.size+2<b) _ W2 by rw[<-hW2];exact lL) (fun b hb=>V0.out b hb) Q0.out)
 replace Q1:=hide (cL.gL (show dP (fun b=>w.heap.size+2<b) _ W2 by rw[<-hW2];exact lL) (fun b hb=>V1.out b hb) Q1.out)
 clear hW2 gO iW jW lJ nT uO hb2 hB1 hY1 fa1 fr1 fo1 UF UG UH UI UJ UK UL UM UN UO Ns Nt Nu UP UQ UR US UT UU UW UX UY UZ Nv Nw Nx acv Ux Uy Uz UA UB UC UD UE Np Nq Nr
 refine (Ac x2 S _ _ _ (Row.bel bl R2.out) hw2).mono ?_
 rintro e w3 ⟨B2,d2,L2,rfl,hQ2,hN2,hL2,hb3⟩
 (have hz3:=hb3.sz;obtain⟨jw,uK,zP,zQ⟩:=hb3.lay (w.heap.size);obtain⟨kq,yx,EH,EI⟩:=hb3.lay (w.heap.size+1);obtain⟨lj,Cp,IU,IV⟩:=hb3.lay (w.heap.size+1+1))
 have N2:=hide hN2
 have V2:=hide (show ∀b,b∈L2->w.heap.size+2<b from fun b hb=>by have:=hL2 b hb;(try simp only[World.size_alloc,World.size_setCell,World.size_drew,World.heap_drewN]at this);omega)
 have U2:=hide (show ∀b,b∈L2->w2.heap.size<=b from fun b hb=>by have:=hL2 b hb;(try simp only[World.size_alloc,World.size_setCell,World.size_drew,World.heap_drewN]at this);omega)
 have T2:=hide (hQ2.lt)
 have Q2:=hide hQ2
 clear hQ2 hN2 hL2
 go_wp2_with (fail)
 refine Calls.named fun W3 hW3=>?_
 have hB3:cE w W3:=by rw[<-hW3];exact bl
 have hZ3:=hB3.size
 have hY3:w.heap.size+1+1<W3.heap.size:=by rw[<-hW3];simp;omega
 have hV3:w3.heap.size<=W3.heap.size:=by rw[<-hW3];simp
 have uQ:W3.cell? ⟨w.heap.size,3,none⟩=some (.slice A3 x3.length c3):=by rw[<-hW3];simp[jw,go_sem,qV] <;> rfl
 have uR:W3.cell? ⟨w.heap.size,4,none⟩=some (.string x4):=by rw[<-hW3];simp[jw,go_sem,qW] <;> rfl
 have uS:W3.cell? ⟨w.heap.size,5,none⟩=some (.int .i64 x5):=by rw[<-hW3];simp[jw,go_sem,qX] <;> rfl
 have tj:W3.cell? ⟨w.heap.size,6,none⟩=some (.slice A6 x6.length c6):=by rw[<-hW3];simp[jw,go_sem,qY] <;> rfl
 have tk:W3.cell? ⟨w.heap.size,7,none⟩=some (.slice A7 x7.length c7):=by rw[<-hW3];simp[jw,go_sem,qZ] <;> rfl
 have tn:W3.cell? ⟨w.heap.size,8,none⟩=some (.slice A8 x8.length c8):=by rw[<-hW3];simp[jw,go_sem,q9] <;> rfl
 have tp:W3.cell? ⟨w.heap.size,9,none⟩=some (.bool x9):=by rw[<-hW3];simp[jw,go_sem,ra] <;> rfl
 have o7:W3.cell? ⟨w.heap.size,10,none⟩=some (.int .i64 x10):=by rw[<-hW3];simp[jw,go_sem,nh] <;> rfl
 have o9:W3.cell? ⟨w.heap.size,11,none⟩=some (.int .i64 x11):=by rw[<-hW3];simp[jw,go_sem,ni] <;> rfl
 have pc:W3.cell? ⟨w.heap.size,12,none⟩=some (.int .i64 x12):=by rw[<-hW3];simp[jw,go_sem,nj] <;> rfl
 have fa3:∀o,W3.frozen? ⟨w.heap.size,o,none⟩=false:=by intro o;rw[<-hW3];simp[uK,go_sem,fa2]
 have Vs:W3.cell? ⟨w.heap.size+1,0,none⟩=some (.slice none 0 0):=by rw[<-hW3];simp[kq,go_sem,U5] <;> rfl
 have Vt:W3.cell? ⟨w.heap.size+1,1,none⟩=some (.slice none 0 0):=by rw[<-hW3];simp[kq,go_sem,U9] <;> rfl
 have Vu:W3.cell? ⟨w.heap.size+1,2,none⟩=some (.slice none 0 0):=by rw[<-hW3];simp[kq,go_sem,Va] <;> rfl
 have Vv:W3.cell? ⟨w.heap.size+1,3,none⟩=some (.slice none 0 0):=by rw[<-hW3];simp[kq,go_sem,Vb] <;> rfl
 have Vw:W3.cell? ⟨w.heap.size+1,4,none⟩=some (.string ByteArray.empty):=by rw[<-hW3];simp[kq,go_sem,Vc] <;> rfl
 have Vx:W3.cell? ⟨w.heap.size+1,5,none⟩=some (.int .i64 0):=by rw[<-hW3];simp[kq,go_sem,Vd] <;> rfl
 have Vy:W3.cell? ⟨w.heap.size+1,6,none⟩=some (.slice none 0 0):=by rw[<-hW3];simp[kq,go_sem,Ve] <;> rfl
 have Vz:W3.cell? ⟨w.heap.size+1,7,none⟩=some (.slice none 0 0):=by rw[<-hW3];simp[kq,go_sem,Vf] <;> rfl
 have VA:W3.cell? ⟨w.heap.size+1,8,none⟩=some (.slice none 0 0):=by rw[<-hW3];simp[kq,go_sem,Vg] <;> rfl
 have VC:W3.cell? ⟨w.heap.size+1,9,none⟩=some (.bool false):=by rw[<-hW3];simp[kq,go_sem,Vh] <;> rfl
 have NG:W3.cell? ⟨w.heap.size+1,10,none⟩=some (.int .i64 0):=by rw[<-hW3];simp[kq,go_sem,Ny] <;> rfl
 have NK:W3.cell? ⟨w.heap.size+1,11,none⟩=some (.int .i64 0):=by rw[<-hW3];simp[kq,go_sem,Nz] <;> rfl
 have NM:W3.cell? ⟨w.heap.size+1,12,none⟩=some (.int .i64 0):=by rw[<-hW3];simp[kq,go_sem,NA] <;> rfl
 have fr3:∀o,W3.frozen? ⟨w.heap.size+1,o,none⟩=false:=by intro o;rw[<-hW3];simp[yx,go_sem,fr2]
 have VD:W3.cell? ⟨w.heap.size+1+1,0,none⟩=some (.slice B0 x0.length d0):=by rw[<-hW3];simp[lj,go_sem,Vi] <;> rfl
 have VE:W3.cell? ⟨w.heap.size+1+1,1,none⟩=some (.slice B1 x1.length d1):=by rw[<-hW3];simp[lj,go_sem,Vj] <;> rfl
 have VF:W3.cell? ⟨w.heap.size+1+1,2,none⟩=some (.slice B2 x2.length d2):=by rw[<-hW3];simp[lj,go_sem,Vk] <;> rfl
 have VG:W3.cell? ⟨w.heap.size+1+1,3,none⟩=some (.slice none 0 0):=by rw[<-hW3];simp[lj,go_sem,Vl] <;> rfl
 have VH:W3.cell? ⟨w.heap.size+1+1,4,none⟩=some (.string ByteArray.empty):=by rw[<-hW3];simp[lj,go_sem,Vm] <;> rfl
 have VI:W3.cell? ⟨w.heap.size+1+1,5,none⟩=some (.int .i64 0):=by rw[<-hW3];simp[lj,go_sem,Vn] <;> rfl
 have VJ:W3.cell? ⟨w.heap.size+1+1,6,none⟩=some (.slice none 0 0):=by rw[<-hW3];simp[lj,go_sem,Vo] <;> rfl
 have VK:W3.cell? ⟨w.heap.size+1+1,7,none⟩=some (.slice none 0 0):=by rw[<-hW3];simp[lj,go_sem,Vp] <;> rfl
 have VL:W3.cell? ⟨w.heap.size+1+1,8,none⟩=some (.slice none 0 0):=by rw[<-hW3];simp[lj,go_sem,Vq] <;> rfl
 have VM:W3.cell? ⟨w.heap.size+1+1,9,none⟩=some (.bool false):=by rw[<-hW3];simp[lj,go_sem,Vr] <;> rfl
 have NN:W3.cell? ⟨w.heap.size+1+1,10,none⟩=some (.int .i64 0):=by rw[<-hW3];simp[lj,go_sem,NB] <;> rfl
 have NP:W3.cell? ⟨w.heap.size+1+1,11,none⟩=some (.int .i64 0):=by rw[<-hW3];simp[lj,go_sem,NC] <;> rfl
 have NQ:W3.cell? ⟨w.heap.size+1+1,12,none⟩=some (.int .i64 0):=by rw[<-hW3];simp[lj,go_sem,ND] <;> rfl
 have fo3:∀o,W3.frozen? ⟨w.heap.size+1+1,o,none⟩=false:=by intro o;rw[<-hW3];simp[Cp,go_sem,fo2]
 replace Q0:=hide (cL.gL (show dP (fun b=>w.heap.size+2<b) _ W3 by rw[<-hW3];exact lL) (fun b hb=>V0.out b hb) Q0.out)
 replace Q1:=hide (cL.gL (show dP (fun b=>w.heap.size+2<b) _ W3 by rw[<-hW3];exact lL) (fun b hb=>V1.out b hb) Q1.out)
 replace Q2:=hide (cL.gL (show dP (fun b=>w.heap.size+2<b) _ W3 by rw[<-hW3];exact lL) (fun b hb=>V2.out b hb) Q2.out)
 clear hW3 jw kq lj uK yx Cp hb3 hB2 hY2 fa2 fr2 fo2 U5 U9 Va Vb Vc Vd Ve Vf Vg Vh Ny Nz NA Vi Vj Vk Vl Vm Vn Vo Vp Vq Vr NB NC ND sx qV qW qX qY qZ q9 ra nh ni nj
 refine (qj x3 S _ _ _ (Row.bel bl R3.out) hw3).mono ?_
 rintro e w4 ⟨B3,d3,L3,rfl,JY,hN3,hL3,hb4⟩
 (have Sz:=hb4.sz;obtain⟨oZ,xe,zR,zS⟩:=hb4.lay (w.heap.size);obtain⟨mr,yy,EJ,EK⟩:=hb4.lay (w.heap.size+1);obtain⟨pd,NR,acw,acx⟩:=hb4.lay (w.heap.size+1+1))
 have N3:=hide hN3
 have V3:=hide (show ∀b,b∈L3->w.heap.size+2<b from fun b hb=>by have:=hL3 b hb;(try simp only[World.size_alloc,World.size_setCell,World.size_drew,World.heap_drewN]at this);omega)
 have U3:=hide (show ∀b,b∈L3->w3.heap.size<=b from fun b hb=>by have:=hL3 b hb;(try simp only[World.size_alloc,World.size_setCell,World.size_drew,World.heap_drewN]at this);omega)
 have T3:=hide (JY.lt)
 have Q3:=hide JY
 clear JY hN3 hL3
 go_wp2_with (fail)
 refine Calls.named fun W4 pZ=>?_
 have hB4:cE w W4:=by rw[<-pZ];exact bl
 have hZ4:=hB4.size
 have hY4:w.heap.size+1+1<W4.heap.size:=by rw[<-pZ];simp;omega
 have hV4:w4.heap.size<=W4.heap.size:=by rw[<-pZ];simp
 have yz:W4.cell? ⟨w.heap.size,6,none⟩=some (.slice A6 x6.length c6):=by rw[<-pZ];simp[oZ,go_sem,tj] <;> rfl
 have xn:W4.cell? ⟨w.heap.size,7,none⟩=some (.slice A7 x7.length c7):=by rw[<-pZ];simp[oZ,go_sem,tk] <;> rfl
 have xo:W4.cell? ⟨w.heap.size,8,none⟩=some (.slice A8 x8.length c8):=by rw[<-pZ];simp[oZ,go_sem,tn] <;> rfl
 have xp:W4.cell? ⟨w.heap.size,9,none⟩=some (.bool x9):=by rw[<-pZ];simp[oZ,go_sem,tp] <;> rfl
 have rM:W4.cell? ⟨w.heap.size,10,none⟩=some (.int .i64 x10):=by rw[<-pZ];simp[oZ,go_sem,o7] <;> rfl
 have rN:W4.cell? ⟨w.heap.size,11,none⟩=some (.int .i64 x11):=by rw[<-pZ];simp[oZ,go_sem,o9] <;> rfl
 have rO:W4.cell? ⟨w.heap.size,12,none⟩=some (.int .i64 x12):=by rw[<-pZ];simp[oZ,go_sem,pc] <;> rfl
 have fa4:∀o,W4.frozen? ⟨w.heap.size,o,none⟩=false:=by intro o;rw[<-pZ];simp[xe,go_sem,fa3]
 have VN:W4.cell? ⟨w.heap.size+1,0,none⟩=some (.slice none 0 0):=by rw[<-pZ];simp[mr,go_sem,Vs] <;> rfl
 have VO:W4.cell? ⟨w.heap.size+1,1,none⟩=some (.slice none 0 0):=by rw[<-pZ];simp[mr,go_sem,Vt] <;> rfl
 have VP:W4.cell? ⟨w.heap.size+1,2,none⟩=some (.slice none 0 0):=by rw[<-pZ];simp[mr,go_sem,Vu] <;> rfl
 have VQ:W4.cell? ⟨w.heap.size+1,3,none⟩=some (.slice none 0 0):=by rw[<-pZ];simp[mr,go_sem,Vv] <;> rfl
 have VR:W4.cell? ⟨w.heap.size+1,4,none⟩=some (.string ByteArray.empty):=by rw[<-pZ];simp[mr,go_sem,Vw] <;> rfl
 have VS:W4.cell? ⟨w.heap.size+1,5,none⟩=some (.int .i64 0):=by rw[<-pZ];simp[mr,go_sem,Vx] <;> rfl
 have VT:W4.cell? ⟨w.heap.size+1,6,none⟩=some (.slice none 0 0):=by rw[<-pZ];simp[mr,go_sem,Vy] <;> rfl
 have VU:W4.cell? ⟨w.heap.size+1,7,none⟩=some (.slice none 0 0):=by rw[<-pZ];simp[mr,go_sem,Vz] <;> rfl
 have VV:W4.cell? ⟨w.heap.size+1,8,none⟩=some (.slice none 0 0):=by rw[<-pZ];simp[mr,go_sem,VA] <;> rfl
 have VW:W4.cell? ⟨w.heap.size+1,9,none⟩=some (.bool false):=by rw[<-pZ];simp[mr,go_sem,VC] <;> rfl
 have NS:W4.cell? ⟨w.heap.size+1,10,none⟩=some (.int .i64 0):=by rw[<-pZ];simp[mr,go_sem,NG] <;> rfl
 have NT:W4.cell? ⟨w.heap.size+1,11,none⟩=some (.int .i64 0):=by rw[<-pZ];simp[mr,go_sem,NK] <;> rfl
 have NU:W4.cell? ⟨w.heap.size+1,12,none⟩=some (.int .i64 0):=by rw[<-pZ];simp[mr,go_sem,NM] <;> rfl
 have fr4:∀o,W4.frozen? ⟨w.heap.size+1,o,none⟩=false:=by intro o;rw[<-pZ];simp[yy,go_sem,fr3]
 have VX:W4.cell? ⟨w.heap.size+1+1,0,none⟩=some (.slice B0 x0.length d0):=by rw[<-pZ];simp[pd,go_sem,VD] <;> rfl
 have VY:W4.cell? ⟨w.heap.size+1+1,1,none⟩=some (.slice B1 x1.length d1):=by rw[<-pZ];simp[pd,go_sem,VE] <;> rfl
 have VZ:W4.cell? ⟨w.heap.size+1+1,2,none⟩=some (.slice B2 x2.length d2):=by rw[<-pZ];simp[pd,go_sem,VF] <;> rfl
 have V5:W4.cell? ⟨w.heap.size+1+1,3,none⟩=some (.slice B3 x3.length d3):=by rw[<-pZ];simp[pd,go_sem,VG] <;> rfl
 have V9:W4.cell? ⟨w.heap.size+1+1,4,none⟩=some (.string x4):=by rw[<-pZ];simp[pd,go_sem,VH] <;> rfl
 have Wa:W4.cell? ⟨w.heap.size+1+1,5,none⟩=some (.int .i64 x5):=by rw[<-pZ];simp[pd,go_sem,VI] <;> rfl
 have Wb:W4.cell? ⟨w.heap.size+1+1,6,none⟩=some (.slice none 0 0):=by rw[<-pZ];simp[pd,go_sem,VJ] <;> rfl
 have Wc:W4.cell? ⟨w.heap.size+1+1,7,none⟩=some (.slice none 0 0):=by rw[<-pZ];simp[pd,go_sem,VK] <;> rfl
 have Wd:W4.cell? ⟨w.heap.size+1+1,8,none⟩=some (.slice none 0 0):=by rw[<-pZ];simp[pd,go_sem,VL] <;> rfl
 have We:W4.cell? ⟨w.heap.size+1+1,9,none⟩=some (.bool false):=by rw[<-pZ];simp[pd,go_sem,VM] <;> rfl
 have NV:W4.cell? ⟨w.heap.size+1+1,10,none⟩=some (.int .i64 0):=by rw[<-pZ];simp[pd,go_sem,NN] <;> rfl
 have NW:W4.cell? ⟨w.heap.size+1+1,11,none⟩=some (.int .i64 0):=by rw[<-pZ];simp[pd,go_sem,NP] <;> rfl
 have NX:W4.cell? ⟨w.heap.size+1+1,12,none⟩=some (.int .i64 0):=by rw[<-pZ];simp[pd,go_sem,NQ] <;> rfl
 have fo4:∀o,W4.frozen? ⟨w.heap.size+1+1,o,none⟩=false:=by intro o;rw[<-pZ];simp[NR,go_sem,fo3]
 replace Q0:=hide (cL.gL (show dP (fun b=>w.heap.size+2<b) _ W4 by rw[<-pZ];exact lL) (fun b hb=>V0.out b hb) Q0.out)
 replace Q1:=hide (cL.gL (show dP (fun b=>w.heap.size+2<b) _ W4 by rw[<-pZ];exact lL) (fun b hb=>V1.out b hb) Q1.out)
 replace Q2:=hide (cL.gL (show dP (fun b=>w.heap.size+2<b) _ W4 by rw[<-pZ];exact lL) (fun b hb=>V2.out b hb) Q2.out)
 replace Q3:=hide (cL.gL (show dP (fun b=>w.heap.size+2<b) _ W4 by rw[<-pZ];exact lL) (fun b hb=>V3.out b hb) Q3.out)
 clear pZ oZ mr pd xe yy NR hb4 hB3 hY3 fa3 fr3 fo3 Vs Vt Vu Vv Vw Vx Vy Vz VA VC NG NK NM VD VE VF VG VH VI VJ VK VL VM NN NP NQ uQ uR uS tj tk tn tp o7 o9 pc
 refine (mO x6 S _ _ _ (Row.bel bl R6.out) hw6).mono ?_
 rintro e w5 ⟨B6,d6,L6,rfl,hQ6,hN6,hL6,hb5⟩
 (have hz5:=hb5.sz;obtain⟨tc,Cl,IB,IC⟩:=hb5.lay (w.heap.size);obtain⟨nU,EL,Wf,Wg⟩:=hb5.lay (w.heap.size+1);obtain⟨pe,NY,acy,acz⟩:=hb5.lay (w.heap.size+1+1))
 have N6:=hide hN6
 have V6:=hide (show ∀b,b∈L6->w.heap.size+2<b from fun b hb=>by have:=hL6 b hb;(try simp only[World.size_alloc,World.size_setCell,World.size_drew,World.heap_drewN]at this);omega)
 have U6:=hide (show ∀b,b∈L6->w4.heap.size<=b from fun b hb=>by have:=hL6 b hb;(try simp only[World.size_alloc,World.size_setCell,World.size_drew,World.heap_drewN]at this);omega)
 have T6:=hide (hQ6.lt)
 have Q6:=hide hQ6
 clear hQ6 hN6 hL6
 go_wp2_with (fail)
 refine Calls.named fun W5 p6=>?_
 have hB5:cE w W5:=by rw[<-p6];exact bl
 have hZ5:=hB5.size
 have hY5:w.heap.size+1+1<W5.heap.size:=by rw[<-p6];simp;omega
 have hV5:w5.heap.size<=W5.heap.size:=by rw[<-p6];simp
 have IW:W5.cell? ⟨w.heap.size,7,none⟩=some (.slice A7 x7.length c7):=by rw[<-p6];simp[tc,go_sem,xn] <;> rfl
 have EM:W5.cell? ⟨w.heap.size,8,none⟩=some (.slice A8 x8.length c8):=by rw[<-p6];simp[tc,go_sem,xo] <;> rfl
 have EN:W5.cell? ⟨w.heap.size,9,none⟩=some (.bool x9):=by rw[<-p6];simp[tc,go_sem,xp] <;> rfl
 have Ae:W5.cell? ⟨w.heap.size,10,none⟩=some (.int .i64 x10):=by rw[<-p6];simp[tc,go_sem,rM] <;> rfl
 have Af:W5.cell? ⟨w.heap.size,11,none⟩=some (.int .i64 x11):=by rw[<-p6];simp[tc,go_sem,rN] <;> rfl
 have Ag:W5.cell? ⟨w.heap.size,12,none⟩=some (.int .i64 x12):=by rw[<-p6];simp[tc,go_sem,rO] <;> rfl
 have fa5:∀o,W5.frozen? ⟨w.heap.size,o,none⟩=false:=by intro o;rw[<-p6];simp[Cl,go_sem,fa4]
 have Wh:W5.cell? ⟨w.heap.size+1,0,none⟩=some (.slice none 0 0):=by rw[<-p6];simp[nU,go_sem,VN] <;> rfl
 have Wi:W5.cell? ⟨w.heap.size+1,1,none⟩=some (.slice none 0 0):=by rw[<-p6];simp[nU,go_sem,VO] <;> rfl
 have Wj:W5.cell? ⟨w.heap.size+1,2,none⟩=some (.slice none 0 0):=by rw[<-p6];simp[nU,go_sem,VP] <;> rfl
 have Wk:W5.cell? ⟨w.heap.size+1,3,none⟩=some (.slice none 0 0):=by rw[<-p6];simp[nU,go_sem,VQ] <;> rfl
 have Wl:W5.cell? ⟨w.heap.size+1,4,none⟩=some (.string ByteArray.empty):=by rw[<-p6];simp[nU,go_sem,VR] <;> rfl
 have Wm:W5.cell? ⟨w.heap.size+1,5,none⟩=some (.int .i64 0):=by rw[<-p6];simp[nU,go_sem,VS] <;> rfl
 have Wn:W5.cell? ⟨w.heap.size+1,6,none⟩=some (.slice none 0 0):=by rw[<-p6];simp[nU,go_sem,VT] <;> rfl
 have Wo:W5.cell? ⟨w.heap.size+1,7,none⟩=some (.slice none 0 0):=by rw[<-p6];simp[nU,go_sem,VU] <;> rfl
 have Wp:W5.cell? ⟨w.heap.size+1,8,none⟩=some (.slice none 0 0):=by rw[<-p6];simp[nU,go_sem,VV] <;> rfl
 have Wq:W5.cell? ⟨w.heap.size+1,9,none⟩=some (.bool false):=by rw[<-p6];simp[nU,go_sem,VW] <;> rfl
 have NZ:W5.cell? ⟨w.heap.size+1,10,none⟩=some (.int .i64 0):=by rw[<-p6];simp[nU,go_sem,NS] <;> rfl
 have Oa:W5.cell? ⟨w.heap.size+1,11,none⟩=some (.int .i64 0):=by rw[<-p6];simp[nU,go_sem,NT] <;> rfl
 have Ob:W5.cell? ⟨w.heap.size+1,12,none⟩=some (.int .i64 0):=by rw[<-p6];simp[nU,go_sem,NU] <;> rfl
 have fr5:∀o,W5.frozen? ⟨w.heap.size+1,o,none⟩=false:=by intro o;rw[<-p6];simp[EL,go_sem,fr4]
 have Wr:W5.cell? ⟨w.heap.size+1+1,0,none⟩=some (.slice B0 x0.length d0):=by rw[<-p6];simp[pe,go_sem,VX] <;> rfl
 have Ws:W5.cell? ⟨w.heap.size+1+1,1,none⟩=some (.slice B1 x1.length d1):=by rw[<-p6];simp[pe,go_sem,VY] <;> rfl
 have Wt:W5.cell? ⟨w.heap.size+1+1,2,none⟩=some (.slice B2 x2.length d2):=by rw[<-p6];simp[pe,go_sem,VZ] <;> rfl
 have Wu:W5.cell? ⟨w.heap.size+1+1,3,none⟩=some (.slice B3 x3.length d3):=by rw[<-p6];simp[pe,go_sem,V5] <;> rfl
 have Wv:W5.cell? ⟨w.heap.size+1+1,4,none⟩=some (.string x4):=by rw[<-p6];simp[pe,go_sem,V9] <;> rfl
 have Ww:W5.cell? ⟨w.heap.size+1+1,5,none⟩=some (.int .i64 x5):=by rw[<-p6];simp[pe,go_sem,Wa] <;> rfl
 have Wx:W5.cell? ⟨w.heap.size+1+1,6,none⟩=some (.slice B6 x6.length d6):=by rw[<-p6];simp[pe,go_sem,Wb] <;> rfl
 have Wy:W5.cell? ⟨w.heap.size+1+1,7,none⟩=some (.slice none 0 0):=by rw[<-p6];simp[pe,go_sem,Wc] <;> rfl
 have Wz:W5.cell? ⟨w.heap.size+1+1,8,none⟩=some (.slice none 0 0):=by rw[<-p6];simp[pe,go_sem,Wd] <;> rfl
 have WA:W5.cell? ⟨w.heap.size+1+1,9,none⟩=some (.bool false):=by rw[<-p6];simp[pe,go_sem,We] <;> rfl
 have Oc:W5.cell? ⟨w.heap.size+1+1,10,none⟩=some (.int .i64 0):=by rw[<-p6];simp[pe,go_sem,NV] <;> rfl
 have Od:W5.cell? ⟨w.heap.size+1+1,11,none⟩=some (.int .i64 0):=by rw[<-p6];simp[pe,go_sem,NW] <;> rfl
 have Oe:W5.cell? ⟨w.heap.size+1+1,12,none⟩=some (.int .i64 0):=by rw[<-p6];simp[pe,go_sem,NX] <;> rfl
 have fo5:∀o,W5.frozen? ⟨w.heap.size+1+1,o,none⟩=false:=by intro o;rw[<-p6];simp[NY,go_sem,fo4]
 replace Q0:=hide (cL.gL (show dP (fun b=>w.heap.size+2<b) _ W5 by rw[<-p6];exact lL) (fun b hb=>V0.out b hb) Q0.out)
 replace Q1:=hide (cL.gL (show dP (fun b=>w.heap.size+2<b) _ W5 by rw[<-p6];exact lL) (fun b hb=>V1.out b hb) Q1.out)
 replace Q2:=hide (cL.gL (show dP (fun b=>w.heap.size+2<b) _ W5 by rw[<-p6];exact lL) (fun b hb=>V2.out b hb) Q2.out)
 replace Q3:=hide (cL.gL (show dP (fun b=>w.heap.size+2<b) _ W5 by rw[<-p6];exact lL) (fun b hb=>V3.out b hb) Q3.out)
 replace Q6:=hide (cL.gL (show dP (fun b=>w.heap.size+2<b) _ W5 by rw[<-p6];exact lL) (fun b hb=>V6.out b hb) Q6.out)
 clear p6 tc nU pe Cl EL NY hb5 hB4 hY4 fa4 fr4 fo4 VN VO VP VQ VR VS VT VU VV VW NS NT NU VX VY VZ V5 V9 Wa Wb Wc Wd We NV NW NX yz xn xo xp rM rN rO
 refine (mO x7 S _ _ _ (Row.bel bl R7.out) hw7).mono ?_
 rintro e w6 ⟨B7,d7,L7,rfl,hQ7,hN7,hL7,hb6⟩
 (have Sj:=hb6.sz;obtain⟨uL,Cm,ID,IE⟩:=hb6.lay (w.heap.size);obtain⟨nV,EO,WB,WC⟩:=hb6.lay (w.heap.size+1);obtain⟨pg,Og,acA,acB⟩:=hb6.lay (w.heap.size+1+1))
 have N7:=hide hN7
 have V7:=hide (show ∀b,b∈L7->w.heap.size+2<b from fun b hb=>by have:=hL7 b hb;(try simp only[World.size_alloc,World.size_setCell,World.size_drew,World.heap_drewN]at this);omega)
 have U7:=hide (show ∀b,b∈L7->w5.heap.size<=b from fun b hb=>by have:=hL7 b hb;(try simp only[World.size_alloc,World.size_setCell,World.size_drew,World.heap_drewN]at this);omega)
 have T7:=hide (hQ7.lt)
 have Q7:=hide hQ7
 clear hQ7 hN7 hL7
 go_wp2_with (fail)
 refine Calls.named fun W6 p7=>?_
 have hB6:cE w W6:=by rw[<-p7];exact bl
 have hZ6:=hB6.size
 have hY6:w.heap.size+1+1<W6.heap.size:=by rw[<-p7];simp;omega
 have hV6:w6.heap.size<=W6.heap.size:=by rw[<-p7];simp
 have akl:W6.cell? ⟨w.heap.size,8,none⟩=some (.slice A8 x8.length c8):=by rw[<-p7];simp[uL,go_sem,EM] <;> rfl
 have akm:W6.cell? ⟨w.heap.size,9,none⟩=some (.bool x9):=by rw[<-p7];simp[uL,go_sem,EN] <;> rfl
 have ahe:W6.cell? ⟨w.heap.size,10,none⟩=some (.int .i64 x10):=by rw[<-p7];simp[uL,go_sem,Ae] <;> rfl
 have ahf:W6.cell? ⟨w.heap.size,11,none⟩=some (.int .i64 x11):=by rw[<-p7];simp[uL,go_sem,Af] <;> rfl
 have ahg:W6.cell? ⟨w.heap.size,12,none⟩=some (.int .i64 x12):=by rw[<-p7];simp[uL,go_sem,Ag] <;> rfl
 have fa6:∀o,W6.frozen? ⟨w.heap.size,o,none⟩=false:=by intro o;rw[<-p7];simp[Cm,go_sem,fa5]
 have acC:W6.cell? ⟨w.heap.size+1,0,none⟩=some (.slice none 0 0):=by rw[<-p7];simp[nV,go_sem,Wh] <;> rfl
 have acD:W6.cell? ⟨w.heap.size+1,1,none⟩=some (.slice none 0 0):=by rw[<-p7];simp[nV,go_sem,Wi] <;> rfl
 have acE:W6.cell? ⟨w.heap.size+1,2,none⟩=some (.slice none 0 0):=by rw[<-p7];simp[nV,go_sem,Wj] <;> rfl
 have acF:W6.cell? ⟨w.heap.size+1,3,none⟩=some (.slice none 0 0):=by rw[<-p7];simp[nV,go_sem,Wk] <;> rfl
 have acG:W6.cell? ⟨w.heap.size+1,4,none⟩=some (.string ByteArray.empty):=by rw[<-p7];simp[nV,go_sem,Wl] <;> rfl
 have acH:W6.cell? ⟨w.heap.size+1,5,none⟩=some (.int .i64 0):=by rw[<-p7];simp[nV,go_sem,Wm] <;> rfl
 have acI:W6.cell? ⟨w.heap.size+1,6,none⟩=some (.slice none 0 0):=by rw[<-p7];simp[nV,go_sem,Wn] <;> rfl
 have acJ:W6.cell? ⟨w.heap.size+1,7,none⟩=some (.slice none 0 0):=by rw[<-p7];simp[nV,go_sem,Wo] <;> rfl
 have acK:W6.cell? ⟨w.heap.size+1,8,none⟩=some (.slice none 0 0):=by rw[<-p7];simp[nV,go_sem,Wp] <;> rfl
 have acL:W6.cell? ⟨w.heap.size+1,9,none⟩=some (.bool false):=by rw[<-p7];simp[nV,go_sem,Wq] <;> rfl
 have Zl:W6.cell? ⟨w.heap.size+1,10,none⟩=some (.int .i64 0):=by rw[<-p7];simp[nV,go_sem,NZ] <;> rfl
 have Zm:W6.cell? ⟨w.heap.size+1,11,none⟩=some (.int .i64 0):=by rw[<-p7];simp[nV,go_sem,Oa] <;> rfl
 have Zn:W6.cell? ⟨w.heap.size+1,12,none⟩=some (.int .i64 0):=by rw[<-p7];simp[nV,go_sem,Ob] <;> rfl
 have fr6:∀o,W6.frozen? ⟨w.heap.size+1,o,none⟩=false:=by intro o;rw[<-p7];simp[EO,go_sem,fr5]
 have acM:W6.cell? ⟨w.heap.size+1+1,0,none⟩=some (.slice B0 x0.length d0):=by rw[<-p7];simp[pg,go_sem,Wr] <;> rfl
 have acN:W6.cell? ⟨w.heap.size+1+1,1,none⟩=some (.slice B1 x1.length d1):=by rw[<-p7];simp[pg,go_sem,Ws] <;> rfl
 have acO:W6.cell? ⟨w.heap.size+1+1,2,none⟩=some (.slice B2 x2.length d2):=by rw[<-p7];simp[pg,go_sem,Wt] <;> rfl
 have acP:W6.cell? ⟨w.heap.size+1+1,3,none⟩=some (.slice B3 x3.length d3):=by rw[<-p7];simp[pg,go_sem,Wu] <;> rfl
 have acQ:W6.cell? ⟨w.heap.size+1+1,4,none⟩=some (.string x4):=by rw[<-p7];simp[pg,go_sem,Wv] <;> rfl
 have acR:W6.cell? ⟨w.heap.size+1+1,5,none⟩=some (.int .i64 x5):=by rw[<-p7];simp[pg,go_sem,Ww] <;> rfl
 have acS:W6.cell? ⟨w.heap.size+1+1,6,none⟩=some (.slice B6 x6.length d6):=by rw[<-p7];simp[pg,go_sem,Wx] <;> rfl
 have acT:W6.cell? ⟨w.heap.size+1+1,7,none⟩=some (.slice B7 x7.length d7):=by rw[<-p7];simp[pg,go_sem,Wy] <;> rfl
 have acU:W6.cell? ⟨w.heap.size+1+1,8,none⟩=some (.slice none 0 0):=by rw[<-p7];simp[pg,go_sem,Wz] <;> rfl
 have acV:W6.cell? ⟨w.heap.size+1+1,9,none⟩=some (.bool false):=by rw[<-p7];simp[pg,go_sem,WA] <;> rfl
 have Zo:W6.cell? ⟨w.heap.size+1+1,10,none⟩=some (.int .i64 0):=by rw[<-p7];simp[pg,go_sem,Oc] <;> rfl
 have Zp:W6.cell? ⟨w.heap.size+1+1,11,none⟩=some (.int .i64 0):=by rw[<-p7];simp[pg,go_sem,Od] <;> rfl
 have Zq:W6.cell? ⟨w.heap.size+1+1,12,none⟩=some (.int .i64 0):=by rw[<-p7];simp[pg,go_sem,Oe] <;> rfl
 have fo6:∀o,W6.frozen? ⟨w.heap.size+1+1,o,none⟩=false:=by intro o;rw[<-p7];simp[Og,go_sem,fo5]
 replace Q0:=hide (cL.gL (show dP (fun b=>w.heap.size+2<b) _ W6 by rw[<-p7];exact lL) (fun b hb=>V0.out b hb) Q0.out)
 replace Q1:=hide (cL.gL (show dP (fun b=>w.heap.size+2<b) _ W6 by rw[<-p7];exact lL) (fun b hb=>V1.out b hb) Q1.out)
 replace Q2:=hide (cL.gL (show dP (fun b=>w.heap.size+2<b) _ W6 by rw[<-p7];exact lL) (fun b hb=>V2.out b hb) Q2.out)
 replace Q3:=hide (cL.gL (show dP (fun b=>w.heap.size+2<b) _ W6 by rw[<-p7];exact lL) (fun b hb=>V3.out b hb) Q3.out)
 replace Q6:=hide (cL.gL (show dP (fun b=>w.heap.size+2<b) _ W6 by rw[<-p7];exact lL) (fun b hb=>V6.out b hb) Q6.out)
 replace Q7:=hide (cL.gL (show dP (fun b=>w.heap.size+2<b) _ W6 by rw[<-p7];exact lL) (fun b hb=>V7.out b hb) Q7.out)
 clear p7 uL nV pg Cm EO Og hb6 hB5 hY5 fa5 fr5 fo5 Wh Wi Wj Wk Wl Wm Wn Wo Wp Wq NZ Oa Ob Wr Ws Wt Wu Wv Ww Wx Wy Wz WA Oc Od Oe IW EM EN Ae Af Ag
 refine (zY x8 S _ _ _ (Row.bel bl R8.out) hw8).mono ?_
 rintro e w7 ⟨B8,d8,L8,rfl,hQ8,hN8,hL8,hb7⟩
 (have hz7:=hb7.sz;obtain⟨IF,IG,II,IJ⟩:=hb7.lay (w.heap.size);obtain⟨IX,IY,WD,WE⟩:=hb7.lay (w.heap.size+1);obtain⟨WG,WH,acW,acX⟩:=hb7.lay (w.heap.size+1+1))
 have N8:=hide hN8
 have V8:=hide (show ∀b,b∈L8->w.heap.size+2<b from fun b hb=>by have:=hL8 b hb;(try simp only[World.size_alloc,World.size_setCell,World.size_drew,World.heap_drewN]at this);omega)
 have U8:=hide (show ∀b,b∈L8->w6.heap.size<=b from fun b hb=>by have:=hL8 b hb;(try simp only[World.size_alloc,World.size_setCell,World.size_drew,World.heap_drewN]at this);omega)
 have T8:=hide (hQ8.lt)
 have Q8:=hide hQ8
 clear hQ8 hN8 hL8
 go_wp2_with (fail)
 exact bodyPost_ret (v:=.agg #[.slice B0 x0.length d0,.slice B1 x1.length d1,.slice B2 x2.length d2,.slice B3 x3.length d3,.string x4,.int .i64 x5,.slice B6 x6.length d6,.slice B7 x7.length d7,.slice B8 x8.length d8,.bool x9,.int .i64 x10,.int .i64 x11,.int .i64 x12]) (by simp[results,Tryz.results17,go_sem,IX,IY,WG,WH,acC,acD,acE,acF,acG,acH,acI,acJ,acK,acL,Zl,Zm,Zn,acM,acN,acO,acP,acQ,acR,acS,acT,acU,acV,Zo,Zp,Zq,fr6,fo6]) rfl
  ⟨[.slice B0 x0.length d0,.slice B1 x1.length d1,.slice B2 x2.length d2,.slice B3 x3.length d3,.string x4,.int .i64 x5,.slice B6 x6.length d6,.slice B7 x7.length d7,.slice B8 x8.length d8,.bool x9,.int .i64 x10,.int .i64 x11,.int .i64 x12],L0++(L1++(L2++(L3++(L6++(L7++L8))))),rfl,cv.jQ (cL.gL (S:=fun b=>w.heap.size+2<b) lL (fun b hb=>V0.out b hb) Q0.out) (cL.gL (S:=fun b=>w.heap.size+2<b) lL (fun b hb=>V1.out b hb) Q1.out) (cL.gL (S:=fun b=>w.heap.size+2<b) lL (fun b hb=>V2.out b hb) Q2.out) (cL.gL (S:=fun b=>w.heap.size+2<b) lL (fun b hb=>V3.out b hb) Q3.out) aV g5 (cL.gL (S:=fun b=>w.heap.size+2<b) lL (fun b hb=>V6.out b hb) Q6.out) (cL.gL (S:=fun b=>w.heap.size+2<b) lL (fun b hb=>V7.out b hb) Q7.out) (cL.gL (S:=fun b=>w.heap.size+2<b) lL (fun b hb=>V8.out b hb) Q8.out) g10 g11 g12,jK (n:=w1.heap.size) N0.out (jK (n:=w2.heap.size) N1.out (jK (n:=w3.heap.size) N2.out (jK (n:=w4.heap.size) N3.out (jK (n:=w5.heap.size) N6.out (jK (n:=w6.heap.size) N7.out (N8.out) (fun b hb=>T7.out b hb) (fun b hb=>by have:=U8.out b hb;omega)) (fun b hb=>T6.out b hb) (fun b hb=>(List.mem_append.1 hb).elim (fun hb=>by have:=U7.out b hb;omega) (fun hb=>by have:=U8.out b hb;omega))) (fun b hb=>T3.out b hb) (fun b hb=>(List.mem_append.1 hb).elim (fun hb=>by have:=U6.out b hb;omega) (fun hb=>(List.mem_append.1 hb).elim (fun hb=>by have:=U7.out b hb;omega) (fun hb=>by have:=U8.out b hb;omega)))) (fun b hb=>T2.out b hb) (fun b hb=>(List.mem_append.1 hb).elim (fun hb=>by have:=U3.out b hb;omega) (fun hb=>(List.mem_append.1 hb).elim (fun hb=>by have:=U6.out b hb;omega) (fun hb=>(List.mem_append.1 hb).elim (fun hb=>by have:=U7.out b hb;omega) (fun hb=>by have:=U8.out b hb;omega))))) (fun b hb=>T1.out b hb) (fun b hb=>(List.mem_append.1 hb).elim (fun hb=>by have:=U2.out b hb;omega) (fun hb=>(List.mem_append.1 hb).elim (fun hb=>by have:=U3.out b hb;omega) (fun hb=>(List.mem_append.1 hb).elim (fun hb=>by have:=U6.out b hb;omega) (fun hb=>(List.mem_append.1 hb).elim (fun hb=>by have:=U7.out b hb;omega) (fun hb=>by have:=U8.out b hb;omega)))))) (fun b hb=>T0.out b hb) (fun b hb=>(List.mem_append.1 hb).elim (fun hb=>by have:=U1.out b hb;omega) (fun hb=>(List.mem_append.1 hb).elim (fun hb=>by have:=U2.out b hb;omega) (fun hb=>(List.mem_append.1 hb).elim (fun hb=>by have:=U3.out b hb;omega) (fun hb=>(List.mem_append.1 hb).elim (fun hb=>by have:=U6.out b hb;omega) (fun hb=>(List.mem_append.1 hb).elim (fun hb=>by have:=U7.out b hb;omega) (fun hb=>by have:=U8.out b hb;omega)))))),fun b hb=>(List.mem_append.1 hb).elim (fun hb=>by have:=V0.out b hb;omega) (fun hb=>(List.mem_append.1 hb).elim (fun hb=>by have:=V1.out b hb;omega) (fun hb=>(List.mem_append.1 hb).elim (fun hb=>by have:=V2.out b hb;omega) (fun hb=>(List.mem_append.1 hb).elim (fun hb=>by have:=V3.out b hb;omega) (fun hb=>(List.mem_append.1 hb).elim (fun hb=>by have:=V6.out b hb;omega) (fun hb=>(List.mem_append.1 hb).elim (fun hb=>by have:=V7.out b hb;omega) (fun hb=>by have:=V8.out b hb;omega)))))),bl⟩
end Go.Proofs.YtjngkknbpfgdcaaGreatDoor
