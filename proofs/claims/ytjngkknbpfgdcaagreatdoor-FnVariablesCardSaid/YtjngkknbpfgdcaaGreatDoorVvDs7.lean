import Derived.Test.YtjngkknbpfgdcaaGreatDoorVvDs5
set_option linter.unusedVariables false
set_option linter.unusedSimpArgs false
set_option maxRecDepth 100000
set_option maxHeartbeats 8000000
namespace Go.Proofs.YtjngkknbpfgdcaaGreatDoor
open Go.RowKit Go.Proofs.Tryz
def aas (w:World) (c:Nat) (A:Option Addr) (n cap:Nat) (e:Ending) (w':World):Prop :=
 ∃(t:O) (vs:List Value),e=.returned (.agg vs.toArray)/\Y.cA w' (fun b=>w.heap.size<=b) t.D vs/\t.objects.length<=25/\(∀o,o∈t.objects->o.its.length<=100/\o.fO.length<=100)/\(0<=t.made/\t.made<=25/\Y.Gf t.D<=100000)/\kC w' c A n cap/\ic c w w'
theorem Kt (l:List R):Y.C6 (l.map R.D)=0:=by
 induction l with
 | nil=>simp[Y.C6]
 | cons x r ih =>
  obtain⟨k,n,i,t,lo,hi⟩:=x
  simp only[List.map_cons,Y.C6,ih,R.iM,Y.Gf,Y.ln]
theorem Uz (l:List cV):Y.C6 (l.map cV.D)=0:=by
 induction l with
 | nil=>simp[Y.C6]
 | cons x r ih =>
  obtain⟨k,n⟩:=x
  simp only[List.map_cons,Y.C6,ih,cV.iM,Y.Gf,Y.ln]
theorem Px {x2:List cr} {x8:List cV} {ts:cx} {pos tk u:Int} (h2:x2.length<=25) (hs:∀o,o∈x2->o.its.length<=100/\o.fO.length<=100) (h8:x8.length<=1):Y.Gf (O.mk nX oW x2 oM ts pos [] [] x8 false tk 400 u).D<=100000:=by
 have ho:Y.C6 (x2.map cr.D)<=x2.length*200:=DK cr.D 200 x2 fun o ho=>by
  have h:=hs o ho
  obtain⟨k,t,s,i,y⟩:=o
  have h3:i.length<=100:=h.1
  have h4:y.length<=100:=h.2
  simp only[cr.iM,Y.Gf,Y.ln,ar,Kt]
  omega
 have hn:Y.C6 (nX.map fun x=>[Y.str x])=0:=rfl
 have hr:Y.C6 (oW.map cw.D)=2:=rfl
 simp only[O.iM,Y.Gf,Y.ln,ar,Kt,Uz,hn,hr,List.map_nil,aE,Y.C6]
 have e1:nX.length=2:=rfl
 have e2:oW.length=1:=rfl
 have e3:oM.length=2:=rfl
 omega
theorem yd (c:Nat) (A:Option Addr) (n cap:Nat) (w:World) (hc:kC w c A n cap):Calls prog 23 #[.pointer (some ⟨c,0,none⟩)] w (aas w c A n cap):=by
 have HC:=I hc
 have jP:=hc.1
 have iP:w.heap.size≠c:=aF
 clear hc
 go_enter func23,ntmps23
 go_upto_region 1 with (fail)
 refine cZ fun w0 hw0=>?_
 have WN:w0.heap.size=w.heap.size+1:=by rw[<-hw0];simp
 have Gz:U w w0:=by rw[<-hw0];exact bl
 have mj:=I (HC.out.de Gz)
 have Ku:=I (show SB w0 w.heap.size (.slice none 0 0) (.slice none 0 0) (.slice none 0 0) (.slice none 0 0) (.string ByteArray.empty) (.int .i64 0) (.slice none 0 0) (.slice none 0 0) (.slice none 0 0) (.bool false) (.int .i64 0) (.int .i64 0) (.int .i64 0)from by rw[<-hw0];exact SB.new w 30)
 have HZ0:=I WN
 have hzl:w.heap.size<w0.heap.size:=aF
 clear hw0 WN
 go_upto_region 2 with (first
  | (go_at_call 73;refine (kf _ _).mono ?_;rintro e w1 ⟨rfl,dE⟩;obtain⟨L1,hE1⟩:=IY dE;have E1:=I hE1;have k1:U w0 w1:=bl;have jZ:w0.heap.size+1+1+1<=w1.heap.size:=(by have h:=dE.size;simpa using h);have C1:=I (mj.out.de k1);clear dE hE1)
  | (go_at_call 74;refine (nQ (w1.heap.size+1) 3 6 3 c A n cap ((w1.alloc (.cells #[.int .i64 0,.int .i64 0,.int .i64 0,.string ByteArray.empty,.int .i64 0,.int .i64 0,.int .i64 1,.int .i64 3,.int .i64 0,.string ByteArray.empty,.int .i64 0,.int .i64 0] 34)).alloc _) (C1.out.de bl) (by have h:=rW (w:=w1.alloc (.cells #[.int .i64 0,.int .i64 0,.int .i64 0,.string ByteArray.empty,.int .i64 0,.int .i64 0,.int .i64 1,.int .i64 3,.int .i64 0,.string ByteArray.empty,.int .i64 0,.int .i64 0] 34)) (t:=9) 6 [⟨#[]⟩,⟨#[98,97,110,97,110,97]⟩,⟨#[97,98,44,99]⟩] bP;rw[World.size_alloc]at h;exact h) aF aF aF).mono ?_;rintro e w2 ⟨ts,fx,rfl,hC,hO⟩;have I1:=I fx;have C2:=I hC;have GE:=I (LB E1.out aF hO aF);clear hC hO fx)
  | (go_at_call 75;refine (dN 9 c A n cap _ (C2.out) aO).mono ?_;rintro e w3 ⟨y3,p3,q3,rfl,hC,hO⟩;have r3:y3<=8:=q3;clear q3;have C3:=I hC;have O3:=I (GE.out.2.1.trans hO);have E3:=I (GE.out.1.gV hO aF);have Ua:=hO.size;have xX:=GE.out.2.2;clear hC hO))
 refine cZ fun w4 LH=>?_
 have sU:U w3 w4:=by rw[<-LH];exact bl
 have ajO:w3.heap.size<w4.heap.size:=by rw[<-LH];simp
 have apf:ts.size<=6:=I1.out
 have S4:=I (show SQ w0 c w3.heap.size A n cap nX oW oM (.slice (some ⟨w0.heap.size,0,none⟩) 2 2) (.slice (some ⟨w0.heap.size+1+1,0,none⟩) 1 1) (.slice (some ⟨w1.heap.size,0,none⟩) 2 2) L1 ts 1 y3 w4 ku [] [] 0 []from SQ.begin mj.out (C3.out.de sU) (((ic.dH k1).trans O3.out).trans (ic.dH sU)) (by simpa using E3.out.de sU) (by rw[<-LH];exact SB.new w3 _) (fun f hf hb=>by have:=(E3.out.own f (by simpa using hf)).lt w3.heap.size hb;omega) aF aO aO bE)
 obtain⟨q,hq⟩:∃x,w3.heap.size=x:=⟨_,rfl⟩
 obtain⟨v0,hv0⟩:∃x:Value,(.slice (some ⟨w0.heap.size,0,none⟩) 2 2)=x:=⟨_,rfl⟩
 obtain⟨v1,hv1⟩:∃x:Value,(.slice (some ⟨w0.heap.size+1+1,0,none⟩) 1 1)=x:=⟨_,rfl⟩
 obtain⟨v3,hv3⟩:∃x:Value,(.slice (some ⟨w1.heap.size,0,none⟩) 2 2)=x:=⟨_,rfl⟩
 have OS:w0.heap.size<=q:=aF
 rw[hq,hv0,hv1,hv3]at S4
 simp only[hq]
 clear LH hv0 hv1 hv3 E1 GE E3 C1 C2 C3 O3 jZ xX Ua ajO sU k1 I1 hq
 have hqc:q≠c:=by have:=Gz.size;omega
 have hcS:¬(fun b=>w0.heap.size<=b) c:=by have:=Gz.size;show ¬w0.heap.size<=c;omega
 have hB:=S4.out.st.box
 obtain⟨lP,l4,gM,gN,gH,gO,gP,gQ,gR,gS,gT,gU,fu,fv,fw⟩:=hB
 go_upto_region 3 with (go_at_call 75;refine (dN _ c A n cap _ (S4.out.cur) aO).mono ?_;rintro e w5 ⟨y5,p5,q5,rfl,hC,hO⟩;have r5:y5<=100:=(by have h:=pz q5;omega);clear q5;have S5:=I (S4.out.xB hO hC);clear lP l4 gM gN gH gO gP gQ gR gS gT gU fu fv fw;obtain⟨lP,l4,gM,gN,gH,gO,gP,gQ,gR,gS,gT,gU,fu,fv,fw⟩:=S5.out.st.box;clear hC hO)
 refine cZ fun w6 hw6=>?_
 have S6:=I (show SQ w0 c q A n cap nX oW oM v0 v1 v3 L1 ts (1+y5) y3 w6 ku [] [] 0 []from by rw[<-hw6];exact S5.out.pos (p2:=1+y5) aO)
 obtain⟨pos,aef⟩:∃x,1+y5=x:=⟨_,rfl⟩
 obtain⟨tk,htk⟩:∃x,y3=x:=⟨_,rfl⟩
 rw[aef,htk]at S6
 clear lP l4 gM gN gH gO gP gQ gR gS gT gU fu fv fw hw6 aef htk S4 S5 r5
 go_upto_region 4 with (first
  | (go_at_call 73;refine (kf _ _).mono ?_;rintro e w7 ⟨rfl,Py⟩;have k7:U w6 w7:=bl)
  | (go_at_call 77;refine (ni _ _).mono ?_;rintro e w8 ⟨rfl,zA⟩;have k8:U w6 w8:=bl)
  | (go_at_call 76;refine (EZ S6.out (w1:=w8) k8 1 0 obD aap aI (cs:=#[.int .i64 0,.int .i64 0,.int .i64 0,.string ⟨#[]⟩,.int .i64 0,.int .i64 0,.int .i64 1,.int .i64 1,.int .i64 0,.string ⟨#[]⟩,.int .i64 0,.int .i64 0,.int .i64 2,.int .i64 0,.int .i64 0,.string ⟨#[97,98]⟩,.int .i64 0,.int .i64 0]) rfl aO lM aI).mono ?_;rintro e w9 ⟨yA,LA9,yL,yu,rfl,hs,hn2,-,-,-⟩;have S9:=I hs;have hn3:0<yL.length:=(by rw[hn2];simp);replace hn2:yL.length<=1:=(by simpa using Nat.le_of_eq hn2);clear hs))
 clear S6 k7 k8 Py zA
 go_upto_region 6 with (go_at_call 75;refine (dN 7 c A n cap _ (S9.out.cur) aO).mono ?_;rintro e w10 ⟨te,p10,q10,rfl,hC,hO⟩;have r10:te<=6:=q10;clear q10;have S10:=I (S9.out.xB hO hC);clear S9;clear hC hO)
 obtain⟨N1,hN1⟩:=Int.eq_ofNat_of_zero_le (show 0<=2+te by omega)
 have hN8:N1<=8:=aF
 simp only[hN1]
 clear hN1 r10 p10
 go_loopw [5] (fun iv wr=>∃(i:Nat) (y:Value) (L2:List Nat) (x2:List cr) (u:Int),iv=.int .i64 i/\i<=N1/\0<x2.length/\x2.length<=1+3*i/\Hid (SQ w0 c q A n cap nX oW oM v0 v1 v3 L1 ts pos tk wr y L2 x2 u [])) (fun iv _=>N1 - (intOf iv).toNat)
 case atStart=>exact⟨0,_,_,_,_,rfl,Nat.zero_le _,hn3,by omega,S10⟩
 case round =>
  obtain⟨i,y,L2,x2,u,rfl,hi,Xe,hx2,HS⟩:=hrel
  clear S10
  by_cases h:i<N1
  ·
   skip
   have Pw:decide ((i:Int)<(N1:Int))=true:=aH
   have hdn:decide (i<N1)=true:=by simp[h]
   go_upto_region 9 with (go_at_call 75;refine (dN 5 c A n cap _ (HS.out.cur) aO).mono ?_;rintro e IG ⟨sV,p11,q11,rfl,hC,hO⟩;have r11:sV<=4:=q11;clear q11;have S11:=I (HS.out.xB hO hC);clear hC hO)
   refine cZ fun w12 Bq=>?_
   obtain⟨b,hbe⟩:∃x,IG.heap.size=x:=⟨_,rfl⟩
   have T12:=I (show SO w0 c q A n cap nX oW oM v0 v1 v3 L1 ts pos tk w12 y L2 x2 u b (2+sV) 0 ku ku [] []from by rw[<-hbe];exact SO.start S11.out (by rw[<-Bq];exact bl) (by rw[<-Bq];exact OB.new IG _) (Nat.le_refl _) aO)
   simp only[hbe]
   obtain⟨k0,DL⟩:∃x,2+sV=x:=⟨_,rfl⟩
   rw[DL]at T12
   clear Bq S11 HS DL r11 p11 hbe
   go_upto_if 53 with (go_at_call 42;refine (lQ 4 c A n cap _ T12.out.sq.cur aO).mono ?_;rintro e w13 ⟨z,rfl,hC,hO⟩;have UA:=I (T12.out.gV hO hC);clear hC hO)
   clear T12
   go_cut []from 54 to 58 (fun wx=>∃k,SO w0 c q A n cap nX oW oM v0 v1 v3 L1 ts pos tk wx y L2 x2 u b k 0 ku ku [] [])
   case first =>
    cases z
    ·
     go_wp2_with (fail)
     all_goals go_meet
     all_goals exact⟨_,UA.out⟩
    ·
     go_wp2_with (go_at_call 78;refine (qS w13.heap.size 5 5 c A n cap (w13.alloc _) (UA.out.sq.cur.de bl) (lR [1,8,9,7,7] aI) (by have:=UA.out.sq.cur.1;omega) aF aF).mono ?_;rintro e w14 ⟨k1,LK,rfl,hC,hO⟩;have HK:=I LK;have T14:=I ((UA.out.on (w':=w13.alloc _) bl).gV hO hC);clear hC hO LK;obtain⟨lo,fo,o0,o1,o2,o3,o4⟩:=T14.out.ob)
     all_goals go_meet
     all_goals exact⟨_,T14.out.yR HK.out⟩
   case rest =>
    obtain⟨k,T⟩:=hcut
    clear UA
    have UA:=I T
    clear T
    go_upto_if 61 with (first
     | (go_at_call 75;refine (dN 5 c A n cap _ (UA.out.sq.cur) aO).mono ?_;rintro e w15 ⟨y15,p15,q15,rfl,hC,hO⟩;have r15:y15<=4:=q15;clear q15;have T15:=I (UA.out.gV hO hC);clear hC hO)
     | (go_at_call 42;refine (lQ 30 c A n cap _ T15.out.sq.cur aO).mono ?_;rintro e w16 ⟨z,rfl,hC,hO⟩;have T16:=I (T15.out.gV hO hC);clear hC hO))
    clear UA T15
    go_cut [7]from 62 to 64 (fun v wx=>∃K:Nat,v=.int .i64 K/\K<=40/\SO w0 c q A n cap nX oW oM v0 v1 v3 L1 ts pos tk wx y L2 x2 u b k 0 ku ku [] [])
    case first =>
     cases z
     ·
      obtain⟨K,rfl⟩:=Int.eq_ofNat_of_zero_le p15
      go_wp2_with (fail)
      all_goals go_meet
      all_goals exact⟨K,rfl,by omega,T16.out⟩
     ·
      go_wp2_with (go_at_call 75;refine (dN 3 c A n cap _ (T16.out.sq.cur) aO).mono ?_;rintro e w17 ⟨y17,p17,q17,rfl,hC,hO⟩;have r17:y17<=2:=q17;clear q17;have T17:=I (T16.out.gV hO hC);clear hC hO)
      all_goals go_meet
      all_goals exact⟨(38+y17).toNat,by go_num,by omega,T17.out⟩
    case rest =>
     obtain⟨K,rfl,apl,T⟩:=hcut
     clear T16
     have T16:=I T
     clear T
     go_upto_region 15 with (fail)
     go_loopw [8] (fun jv wr=>∃(j:Nat) (vi vk:Value) (its fO:List R),jv=.int .i64 j/\j<=K/\its.length<=j/\fO.length<=j/\Hid (SO w0 c q A n cap nX oW oM v0 v1 v3 L1 ts pos tk wr y L2 x2 u b k 0 vi vk its fO)) (fun jv _=>K - (intOf jv).toNat)
     case atStart=>exact⟨0,_,_,_,_,rfl,Nat.zero_le _,Nat.zero_le _,Nat.zero_le _,T16⟩
     case round =>
      obtain⟨j,vi,vk,its,fO,rfl,hj,hil,UB,HT⟩:=hrel
      clear T16
      by_cases hjk:j<K
      ·
       skip
       have hdj:decide ((j:Int)<(K:Int))=true:=aH
       have Fa:decide (j<K)=true:=by simp[hjk]
       go_upto_region 18 with (go_at_call 25;refine (mT (O.mk nX oW x2 oM ts pos [] [] [] false tk 400 u) (fun b=>w0.heap.size<=b) q c A n cap _ HT.out.sq.cur HT.out.sq.store hcS hqc (by show x2.length<=1048576;omega)).mono ?_;rintro e w18 ⟨⟨aei,aej,aek,ael,aem,aen⟩,hv,he,hC,hO⟩;replace he:e=.returned (.agg #[.int .i64 aei,.int .i64 aej,.int .i64 aek,.string ael,.int .i64 aem,.int .i64 aen]):=he;subst he;have aeo:=I hv;have aaw:=hv.t;unfold maxLen at aaw;simp only at aaw;have T18:=I (HT.out.gV hO hC);clear hC hO hv)
       refine cZ fun w19 aax=>?_
       obtain⟨bv,Gg⟩:∃x,w18.heap.size=x:=⟨_,rfl⟩
       have aep:U w18 w19:=by rw[<-aax];exact bl
       have V19:=I (show V6 w19 bv aei aej aek ael aem aen from by rw[<-aax,<-Gg];exact V6.new w18 _)
       have T19:=I (T18.out.on aep)
       have L19:=I (show ∀f,f∈LA nX oW v0 v1 L1++EO y L2 x2 :: LG oM v3 [EV vi its,EV vk fO]->¬iG f.v f.L bv from by rw[<-Gg];exact T18.out.lt)
       have DM:w0.heap.size<=bv/\bv≠q/\bv≠b:=by have h1:=T18.out.sq.gV.size;have h2:=T18.out.sq.st.box.1;have h3:=T18.out.ob.1;omega
       simp only[Gg]
       clear aax Gg aep T18 HT
       go_upto_if 73 with (fail)
       go_cut []from 73 to 75 (fun wx=>∃(a0 a1 a2:Int) (a3:cx) (a4 a5:Int),(R.mk a0 a1 a2 a3 a4 a5).v.Ok/\V6 wx bv a0 a1 a2 a3 a4 a5/\SO w0 c q A n cap nX oW oM v0 v1 v3 L1 ts pos tk wx y L2 x2 u b k 0 vi vk its fO)
       case first =>
        by_cases h30:(30:Int)<(K:Int)
        ·
         have d30:decide ((30:Int)<(K:Int))=true:=ay h30
         have ajY:=V19.out
         obtain⟨vl,vf,c0,c1,c2,c3,c4,c5⟩:=ajY
         go_wp2_with (go_at_call 73;refine (kf _ _).mono ?_;rintro e w20 ⟨rfl,aeq⟩;have xE:=I (T19.out.on aeq);have Br:=I (V19.out.on aeq);clear vl vf c0 c1 c2 c3 c4 c5;have ajZ:=Br.out;obtain⟨vl,vf,c0,c1,c2,c3,c4,c5⟩:=ajZ)
         all_goals go_meet
         all_goals exact⟨1,j,0,ByteArray.empty,0,0,⟨fM (by show -100<=(1:Int);omega) (by show (1:Int)<=100;omega),by show dT (j:Int);unfold dT;omega,lM,by show ByteArray.empty.size<=maxLen;decide,lM,lM⟩,Br.out.put 1 j 0 ByteArray.empty 0 0,xE.out.Ux (vj.six _ _ _ _ _ _ _ _) L19.out DM.1 DM.2.1 DM.2.2⟩
        ·
         have d30:decide ((30:Int)<(K:Int))=false:=ax h30
         go_wp2_with (fail)
         all_goals go_meet
         all_goals exact⟨_,_,_,_,_,_,aeo.out,V19.out,T19.out⟩
       case rest =>
        obtain⟨a0,a1,a2,a3,a4,a5,ha,hV,hT⟩:=hcut
        have HA:=I ha
        have Br:=I hV
        have xE:=I hT
        have IH:=ha.t
        unfold maxLen at IH
        simp only[R.v]at IH
        clear ha hV hT V19 T19 aeo aaw
        obtain⟨A3,c3,e3⟩:=xE.out.slI
        obtain⟨A4,c4,e4⟩:=xE.out.slK
        subst e3 e4
        go_upto_region 20 with (fail)
        go_cut [89]from 76 to 89 (fun v wx=>∃z:Bool,v=.bool z/\V6 wx bv a0 a1 a2 a3 a4 a5/\SO w0 c q A n cap nX oW oM v0 v1 v3 L1 ts pos tk wx y L2 x2 u b k 0 (.slice A3 its.length c3) (.slice A4 fO.length c4) its fO)
        case first =>
         obtain⟨lo,fo,o0,o1,o2,o3,o4⟩:=xE.out.ob
         obtain⟨vl,vf,d0,d1,d2,d3,d4,d5⟩:=Br.out
         have hq4:=xE.out.aeb.row (S:=fun b=>w0.heap.size<=b) (xE.out.sq.st.gv.low (EV (.slice A4 fO.length c4) fO) aJ)
         obtain⟨A5,c5,e5,nE⟩:=hq4
         rw[ar]at e5
         obtain⟨rfl,rfl⟩:A4=A5/\c4=c5:=by simpa using e5
         have OT:=I nE
         clear nE e5
         rcases (show k=3\/k=4\/(k≠3/\k≠4) by omega)with rfl | rfl | ⟨k3,k4⟩
         ·
          go_wp2_with (go_at_call 79;refine (GA 3 0 0 its.length fO a0 a1 a2 a3 a4 a5 (fun b=>w0.heap.size<=b) _ A3 A4 c3 c4 (Row.de bl OT.out) bE).mono ?_;rintro e w21 ⟨⟨x,rfl⟩,Pz⟩;have T21:=I (xE.out.on Pz);have V21:=I (Br.out.on Pz))
          all_goals go_meet
          all_goals exact⟨_,rfl,V21.out,T21.out⟩
         ·
          go_wp2_with (go_at_call 79;refine (GA 4 0 0 its.length fO a0 a1 a2 a3 a4 a5 (fun b=>w0.heap.size<=b) _ A3 A4 c3 c4 (Row.de bl OT.out) bE).mono ?_;rintro e w21 ⟨⟨x,rfl⟩,Pz⟩;have T21:=I (xE.out.on Pz);have V21:=I (Br.out.on Pz))
          all_goals go_meet
          all_goals exact⟨_,rfl,V21.out,T21.out⟩
         ·
          have e1:(k==3)=false:=beq_eq_false_iff_ne.2 k3
          have e2:(k==4)=false:=beq_eq_false_iff_ne.2 k4
          go_wp2_with (fail)
          all_goals go_meet
          all_goals exact⟨_,rfl,Br.out,xE.out⟩
        case rest =>
         obtain⟨z,rfl,hV,hT⟩:=hcut
         clear Br xE
         have Br:=I hV
         have xE:=I hT
         clear hV hT
         go_upto_if 89 with (fail)
         go_cut []from 90 to 95 (fun wx=>∃(vk:Value) (fO:List R),fO.length<=j+1/\V6 wx bv a0 a1 a2 a3 a4 a5/\SO w0 c q A n cap nX oW oM v0 v1 v3 L1 ts pos tk wx y L2 x2 u b k 0 (.slice A3 its.length c3) vk its fO)
         case first =>
          cases z
          ·
           go_wp2_with (fail)
           all_goals go_meet
           all_goals exact⟨_,_,by omega,Br.out,xE.out⟩
          ·
           skip
           obtain⟨lo,fo,o0,o1,o2,o3,o4⟩:=xE.out.ob
           obtain⟨vl,vf,d0,d1,d2,d3,d4,d5⟩:=Br.out
           obtain⟨iv,ye,DN,DO,DP⟩:=info_parts o9
           obtain⟨nw,mi⟩:=(dK.C0 wc 34 [R.mk a0 a1 a2 a3 a4 a5] (fun x hx=>by rw[List.mem_singleton.1 hx];exact HA.out) (by show 1<=1000;omega) (cs:=#[.int .i64 a0,.int .i64 a1,.int .i64 a2,.string a3,.int .i64 a4,.int .i64 a5]) rfl).src
           have sv:=I mi
           have kb:U wc (wc.alloc (.cells #[.int .i64 a0,.int .i64 a1,.int .i64 a2,.string a3,.int .i64 a4,.int .i64 a5] 34)):=bl
           clear mi
           go_wp2_with (at_builtin;refine fg rfl (.tmp 91) (.tmp 93) 27 rfl 34 iv (.agg #[.int .i64 0,.int .i64 0,.int .i64 0,.string ByteArray.empty,.int .i64 0,.int .i64 0]) 6 56 underlying27 ye DN DO DP aI aI (xE.out.aeb.de kb) sv.out 1 rfl rfl (fun b _ h=>by cases h) ?c2 ?c3 ?_)
           case c2=>simp only[ar,aD,aE];omega
           case c3=>simp only[ar,aD,aE];unfold maxLen;omega
           intro v9 w9 mq mr lp
           have ng:=I (show dK w9 34 6 v9 [] ((fO++[R.mk a0 a1 a2 a3 a4 a5]).map R.D)from by simpa using mq)
           have HG9:=I mr
           have HW9:=I lp
           have tu:=kb.size
           have PA:=I (xE.out.ob4 kb mr)
           have V9:=I (Br.out.block (w':=w9) (aw tu mr.size) ((mr.block bv (au Br.out.lt tu) (fun e=>L19.out (EV (.slice A4 fO.length c4) fO) aJ (Or.inl e.symm))).trans (Below.block kb bv Br.out.lt)))
           obtain⟨A9,c9,L9,e9,-⟩:=ng.out.ownRow
           simp only[ar,List.length_append,aD,aE,Nat.zero_add]at e9
           subst e9
           clear lo fo o0 o1 o2 o3 o4 vl vf d0 d1 d2 d3 d4 d5 mq mr lp
           obtain⟨lo,fo,o0,o1,o2,o3,o4⟩:=PA.out
           go_wp2_with (fail)
           all_goals go_meet
           all_goals exact⟨_,fO++[R.mk a0 a1 a2 a3 a4 a5],by rw[List.length_append];show fO.length+1<=j+1;omega,V9.out.td (Ne.symm DM.2.2) _ _,xE.out.ad4 kb HG9.out ng.out (fun x hx=>(HW9.out x hx).imp id (fun h=>by omega))⟩
         case rest =>
          clear Br xE UB L19
          obtain⟨vk,fO,UB,hV,hT⟩:=hcut
          have Br:=I hV
          have xE:=I hT
          clear hV hT
          go_upto_region 22 with (fail)
          go_cut [109]from 96 to 109 (fun v wx=>∃z:Bool,v=.bool z/\V6 wx bv a0 a1 a2 a3 a4 a5/\SO w0 c q A n cap nX oW oM v0 v1 v3 L1 ts pos tk wx y L2 x2 u b k 0 (.slice A3 its.length c3) vk its fO)
          case first =>
           obtain⟨lo,fo,o0,o1,o2,o3,o4⟩:=xE.out.ob
           rcases (show k=1\/k=2\/(k≠1/\k≠2) by omega)with rfl | rfl | ⟨k1,k2⟩
           ·
            by_cases h24:its.length<24
            ·
             have d24:decide ((its.length:Int)<24)=true:=ay aF
             go_wp2_with (fail)
             all_goals go_meet
             all_goals exact⟨_,rfl,Br.out,xE.out⟩
            ·
             have d24:decide ((its.length:Int)<24)=false:=ax aF
             go_wp2_with (fail)
             all_goals go_meet
             all_goals exact⟨_,rfl,Br.out,xE.out⟩
           ·
            go_wp2_with (fail)
            all_goals go_meet
            all_goals exact⟨_,rfl,Br.out,xE.out⟩
           ·
            have e1:(k==1)=false:=beq_eq_false_iff_ne.2 k1
            have e2:(k==2)=false:=beq_eq_false_iff_ne.2 k2
            go_wp2_with (fail)
            all_goals go_meet
            all_goals exact⟨_,rfl,Br.out,xE.out⟩
          case rest =>
           obtain⟨z,rfl,hV,hT⟩:=hcut
           clear Br xE
           have Br:=I hV
           have xE:=I hT
           clear hV hT
           go_upto_if 109 with (fail)
           cases z
           ·
            go_wp2_with (fail)
            all_goals go_roundw
            case rel=>exact⟨j+1,_,_,its,fO,by go_num,by omega,by omega,UB,xE⟩
            case measure=>simp[intOf];omega
           ·
            skip
            obtain⟨lo,fo,o0,o1,o2,o3,o4⟩:=xE.out.ob
            obtain⟨vl,vf,d0,d1,d2,d3,d4,d5⟩:=Br.out
            obtain⟨iv,ye,DN,DO,DP⟩:=info_parts o9
            obtain⟨nw,mi⟩:=(dK.C0 wc 34 [R.mk a0 a1 a2 a3 a4 a5] (fun x hx=>by rw[List.mem_singleton.1 hx];exact HA.out) (by show 1<=1000;omega) (cs:=#[.int .i64 a0,.int .i64 a1,.int .i64 a2,.string a3,.int .i64 a4,.int .i64 a5]) rfl).src
            have sv:=I mi
            have kb:U wc (wc.alloc (.cells #[.int .i64 a0,.int .i64 a1,.int .i64 a2,.string a3,.int .i64 a4,.int .i64 a5] 34)):=bl
            clear mi
            go_wp2_with (at_builtin;refine fg rfl (.tmp 111) (.tmp 113) 27 rfl 34 iv (.agg #[.int .i64 0,.int .i64 0,.int .i64 0,.string ByteArray.empty,.int .i64 0,.int .i64 0]) 6 56 underlying27 ye DN DO DP aI aI (xE.out.Lz.de kb) sv.out 1 rfl rfl (fun b _ h=>by cases h) ?c2 ?c3 ?_)
            case c2=>simp only[ar,aD,aE];omega
            case c3=>simp only[ar,aD,aE];unfold maxLen;omega
            intro v9 w9 mq mr lp
            have ng:=I (show dK w9 34 6 v9 [] ((its++[R.mk a0 a1 a2 a3 a4 a5]).map R.D)from by simpa using mq)
            have HG9:=I mr
            have HW9:=I lp
            have tu:=kb.size
            have PA:=I (xE.out.ob3 kb mr)
            obtain⟨A9,c9,L9,e9,-⟩:=ng.out.ownRow
            simp only[ar,List.length_append,aD,aE,Nat.zero_add]at e9
            subst e9
            clear lo fo o0 o1 o2 o3 o4 vl vf d0 d1 d2 d3 d4 d5 mq mr lp
            obtain⟨lo,fo,o0,o1,o2,o3,o4⟩:=PA.out
            go_wp2_with (fail)
            all_goals go_roundw
            case rel=>exact⟨j+1,_,_,its++[R.mk a0 a1 a2 a3 a4 a5],fO,by go_num,by omega,by rw[List.length_append];show its.length+1<=j+1;omega,UB,I (xE.out.Gu kb HG9.out ng.out (fun x hx=>(HW9.out x hx).imp id (fun h=>by omega)))⟩
            case measure=>simp[intOf];omega
      ·
       have hdj:decide ((j:Int)<(K:Int))=false:=aH
       have Fa:decide (j<K)=false:=aH
       have PB:its.length<=40:=aF
       have aes:fO.length<=40:=aF
       clear hil UB hj
       obtain⟨A3,c3,e3⟩:=HT.out.slI
       obtain⟨A4,c4,e4⟩:=HT.out.slK
       subst e3 e4
       have zy:=HT.out.ob
       obtain⟨lo,fo,o0,o1,o2,o3,o4⟩:=zy
       have yf:b≠c:=by have h1:=HT.out.DH.1;have h2:=HT.out.sq.ne.1;omega
       obtain⟨X0,hxa,hxb⟩:∃m:Nat,x2.length<=m/\m<=1+3*i:=⟨_,Nat.le_refl _,hx2⟩
       go_upto_block 4 with (fail)
       go_cut [10,11,12]from 118 to 198 (fun rX rY qu wx=>∃(y:Value) (L2:List Nat) (x2b:List cr) (u k t:Int) (vi vk:Value) (its fO:List R),x2b.length<=X0+2/\its.length<=100/\fO.length<=100/\SO w0 c q A n cap nX oW oM v0 v1 v3 L1 ts pos tk wx y L2 x2b u b k t vi vk its fO)
       case first =>
        have PC:(O.mk nX oW x2 oM ts pos [] [] [] false tk 400 u).objects.length<=1048576:=by show x2.length<=1048576;omega
        rcases (show k=3\/k=5\/k=6\/k=7\/k=8\/k=9\/(k≠3/\k≠5/\k≠6/\k≠7/\k≠8/\k≠9) by omega)with rfl | rfl | rfl | rfl | rfl | rfl | ⟨k3,k5,k6,k7,k8,k9⟩
        ·
         go_upto_region 26 with (fail)
         clear lo fo o0 o1 o2 o3 o4
         go_loopw [] (fun wr=>∃(vi:Value) (its:List R),its.length<=41/\Hid (SO w0 c q A n cap nX oW oM v0 v1 v3 L1 ts pos tk wr y L2 x2 u b 3 0 vi (.slice A4 fO.length c4) its fO)) (fun wr=>fO.length+1 - Pt wr b)
         case atStart=>exact⟨_,_,by omega,HT⟩
         case round =>
          clear HT PB
          obtain⟨vi,its,hil,HT⟩:=hrel
          obtain⟨A3,c3,e3⟩:=HT.out.slI
          subst e3
          have zy:=HT.out.ob
          obtain⟨lo,fo,o0,o1,o2,o3,o4⟩:=zy
          have hL0:=Gw o3
          by_cases hc:its.length<=fO.length
          ·
           have hd:decide ((its.length:Int)<=(fO.length:Int))=true:=ay aF
           have GC:decide (its.length<=fO.length)=true:=ay hc
           go_upto_region 27 with (fail)
           clear lo fo o0 o1 o2 o3 o4 hd GC
           refine ea 7 (fun s f wq=>(s 0=true->(f 0)=.pointer (some ⟨b,3,none⟩))/\(s 1=true->(f 1)=(.slice A3 its.length c3))/\(s 2=true->(f 2)=.pointer (some ⟨c,0,none⟩))/\(s 3=true->∃x:R,x.v.Ok/\(f 3)=.agg (oN x).toArray)/\(s 4=true->s 5=false->∃x:R,x.v.Ok/\∃g:Nat,(f 4)=.slice (some ⟨g,0,none⟩) 1 1/\dK wq 34 6 (f 4) [] [x.D])/\(s 6=true->(f 6)=.pointer (some ⟨b,3,none⟩))/\(s 5=false->SO w0 c q A n cap nX oW oM v0 v1 v3 L1 ts pos tk wq y L2 x2 u b 3 0 (.slice A3 its.length c3) (.slice A4 fO.length c4) its fO)/\(s 5=true->∃x:R,x.v.Ok/\SM w0 c q A n cap nX oW oM v0 v1 v3 L1 ts pos tk wq y L2 x2 u b 3 0 (.slice A3 its.length c3) (f 5) (.slice A4 fO.length c4) (its++[x]) fO)) [(0,some 127),(1,some 128),(2,some 129),(3,some 130),(4,some 131),(5,some 132),(6,some 133),(7,none)] rfl aG aG ?hJ rfl ?hstep ?hlast
           case hJ=>exact fun u=>⟨cS,cS,cS,cS,cS,cS,(fun _=>HT.out.on bl),cS⟩
           case hstep =>
            simp only[gZ,Act.put,aa,ab,ae,af,ag,aj]
            refine (ct (i:=0) (i2:=1) (o:=_) rfl ?s0 (ct (i:=1) (i2:=2) (o:=_) rfl ?s1 (ct (i:=2) (i2:=3) (o:=_) rfl ?s2 (ct (i:=3) (i2:=4) (o:=_) rfl ?s3 (ct (i:=4) (i2:=5) (o:=_) rfl ?s4 (ct (i:=5) (i2:=6) (o:=_) rfl ?s5 (ct (i:=6) (i2:=7) (o:=_) rfl ?s6 (fW aI))))))))
            case s0 =>
             intro uf wa s hs ha cl hJ K hK
             obtain⟨ig,fF,ij,eM,dL,ik,me,tL⟩:=hJ
             simp only[Act.put,aa,ab,ae,af,ag,aj]at hK |-
             go_simp
             exact hK.out _ _ ⟨fun _=>rfl,fF,ij,eM,dL,ik,me,tL⟩
            case s1 =>
             intro uf wa s hs ha cl hJ K hK
             obtain⟨ig,fF,ij,eM,dL,ik,me,tL⟩:=hJ
             have PD:=ig (ha 0 aG)
             simp only[Act.put,aa,ab,ae,af,ag,aj]at hK |-
             rw[PD]at hK |-
             have LM:s 5=false:=by cases hq:s 5 with | false=>rfl | true=>exact absurd (cl 5 hq 1 aG) aT
             have T:=me LM
             obtain⟨lo,fo,o0,o1,o2,o3,o4⟩:=T.ob
             clear T
             go_simp
             exact hK.out _ _ ⟨ig,fun _=>rfl,ij,eM,dL,ik,me,tL⟩
            case s2 =>
             intro uf wa s hs ha cl hJ K hK
             obtain⟨ig,fF,ij,eM,dL,ik,me,tL⟩:=hJ
             simp only[Act.put,aa,ab,ae,af,ag,aj]at hK |-
             go_simp
             exact hK.out _ _ ⟨ig,fF,fun _=>rfl,eM,dL,ik,me,tL⟩
            case s3 =>
             intro uf wa s hs ha cl hJ K hK
             obtain⟨ig,fF,ij,eM,dL,ik,me,tL⟩:=hJ
             have PE:=ij (ha 2 aG)
             simp only[Act.put,aa,ab,ae,af,ag,aj]at hK |-
             rw[PE]at hK |-
             have LM:s 5=false:=by cases hq:s 5 with | false=>rfl | true=>exact absurd (cl 4 (cl 5 hq 4 aG) 3 aG) aT
             have T:=me LM
             go_simp
             go_at_call 25
             refine (mT (O.mk nX oW x2 oM ts pos [] [] [] false tk 400 u) (fun b=>w0.heap.size<=b) q c A n cap wa T.sq.cur T.sq.store hcS hqc (by show x2.length<=1048576;omega)).mono ?_
             rintro e w5 ⟨⟨k5,n5,i5,t5,l5,h5⟩,hv,he,hC,hO⟩
             replace he:e=.returned (.agg #[.int .i64 k5,.int .i64 n5,.int .i64 i5,.string t5,.int .i64 l5,.int .i64 h5]):=he
             subst he
             exact hK.out _ _ ⟨ig,fF,ij,fun _=>⟨.mk k5 n5 i5 t5 l5 h5,hv,rfl⟩,(fun h=>absurd (cl 4 h 3 aG) aT),ik,(fun _=>T.gV hO hC),(fun h=>absurd (cl 4 (cl 5 h 4 aG) 3 aG) aT)⟩
            case s4 =>
             intro uf wa s hs ha cl hJ K hK
             obtain⟨ig,fF,ij,eM,dL,ik,me,tL⟩:=hJ
             simp only[Act.put,aa,ab,ae,af,ag,aj]at hK |-
             obtain⟨x,hx,lr⟩:=eM (ha 3 aG)
             obtain⟨x0,x1,x3,x4,x5,x6⟩:=x
             replace lr:uf 3=.agg #[.int .i64 x0,.int .i64 x1,.int .i64 x3,.string x4,.int .i64 x5,.int .i64 x6]:=lr
             rw[lr]at hK |-
             have kb:U wa (wa.alloc (.cells #[.int .i64 x0,.int .i64 x1,.int .i64 x3,.string x4,.int .i64 x5,.int .i64 x6] 34)):=bl
             go_simp
             exact hK.out _ _ ⟨ig,fF,ij,eM,(fun _ _=>⟨R.mk x0 x1 x3 x4 x5 x6,hx,wa.heap.size,rfl,dK.C0 wa 34 [R.mk x0 x1 x3 x4 x5 x6] (fun z hz=>by rw[List.mem_singleton.1 hz];exact hx) (by show 1<=1000;omega) rfl⟩),ik,(fun h=>(me h).on kb),(fun h=>absurd (cl 5 h 4 aG) aT)⟩
            case s5 =>
             intro uf wa s hs ha cl hJ K hK
             obtain⟨ig,fF,ij,eM,dL,ik,me,tL⟩:=hJ
             have Bs:=fF (ha 1 aG)
             simp only[Act.put,aa,ab,ae,af,ag,aj]at hK |-
             rw[Bs]at hK |-
             obtain⟨x,hx,g,Bt,CX⟩:=dL (ha 4 aG) hs
             rw[Bt]at hK |- CX
             have T:=me hs
             obtain⟨nw,mi⟩:=CX.src
             obtain⟨iv,ye,DN,DO,DP⟩:=info_parts o9
             refine jq (.tmp 128) (.tmp 131) 27 rfl 34 iv (.agg #[.int .i64 0,.int .i64 0,.int .i64 0,.string ByteArray.empty,.int .i64 0,.int .i64 0]) 6 56 underlying27 ye DN DO DP aI aI T.Lz mi 1 rfl rfl (fun b _ h=>by cases h) (by simp only[ar];omega) (by simp only[ar];unfold maxLen;omega) (fun v9 w9 mq mr lp=>?_)
             have aay:dK w9 34 6 v9 [] ((its++[x]).map R.D):=by simpa using mq
             (try simp only[Act.put,aa,ab,ae,af,ag,aj])
             exact hK.out _ _ ⟨ig,fF,ij,eM,(fun _ h=>absurd (show true=false from h) aI),ik,(fun h=>absurd (show true=false from h) aI),(fun _=>⟨x,hx,T.aec (U.refl wa) mr aay lp⟩)⟩
            case s6 =>
             intro uf wa s hs ha cl hJ K hK
             obtain⟨ig,fF,ij,eM,dL,ik,me,tL⟩:=hJ
             simp only[Act.put,aa,ab,ae,af,ag,aj]at hK |-
             go_simp
             exact hK.out _ _ ⟨ig,fF,ij,eM,dL,fun _=>rfl,me,tL⟩
           case hlast =>
            simp only[gZ,Act.put,aa,ab,ae,af,ag,aj]
            intro uf wa ⟨s,fh,hJ⟩ K hK
            obtain⟨ig,fF,ij,eM,dL,ik,me,tL⟩:=hJ
            have I2:=ik (fh 6 aI)
            obtain⟨x,hx,M⟩:=tL (fh 5 aI)
            clear me tL dL eM fF ig ij ik fh
            obtain⟨A9,c9,L9,I3,-⟩:=M.Lz.ownRow
            simp only[ar,List.length_append,aD,aE,Nat.zero_add]at I3
            rw[I3]at hK M |-
            rw[I2]at hK |-
            have T9:=I M.rT
            obtain⟨lo,fo,o0,o1,o2,o3,o4⟩:=M.ob
            go_simp
            refine hK.out undef _ ?_
            clear hK I3 I2 M lo fo o0 o1 o2 o3 o4
            go_wp2_with (fail)
            all_goals go_roundw
            case rel=>exact⟨_,its++[x],by rw[List.length_append];show its.length+1<=41;omega,T9⟩
            case measure =>
             have hL9:=Gw T9.out.ob.2.2.2.2.2.1
             rw[hL0,hL9]
             omega
          ·
           have hd:decide ((its.length:Int)<=(fO.length:Int))=false:=ax aF
           have GC:decide (its.length<=fO.length)=false:=ax hc
           exact PF
        ·
         clear lo fo o0 o1 o2 o3 o4
         go_upto_region 29 with (fail)
         refine wp_region_lit ?_
         refine wpList_plain rfl fun K hK=>?_
         go_simp
         refine hK _ _ ?_
         clear hK K
         refine wpList_plain rfl fun K hK=>?_
         go_simp
         go_at_call 25
         refine (mT (O.mk nX oW x2 oM ts pos [] [] [] false tk 400 u) (fun b=>w0.heap.size<=b) q c A n cap _ HT.out.sq.cur HT.out.sq.store hcS hqc PC).mono ?_
         rintro e w30 ⟨⟨UC,UD,UE,UF,UG,UH⟩,hv,he,hC,hO⟩
         replace he:e=.returned (.agg #[.int .i64 UC,.int .i64 UD,.int .i64 UE,.string UF,.int .i64 UG,.int .i64 UH]):=he
         subst he
         have aj3:=I hv
         have aet:=hv.t
         unfold maxLen at aet
         simp only at aet
         have AY:=I (HT.out.gV hO hC)
         clear hC hO hv
         refine hK _ _ ?_
         clear hK K
         refine wpList_plain rfl fun K hK=>?_
         go_simp
         refine hK _ _ ?_
         clear hK K
         refine wpList_plain rfl fun K hK=>?_
         go_simp
         go_at_call 25
         refine (mT (O.mk nX oW x2 oM ts pos [] [] [] false tk 400 u) (fun b=>w0.heap.size<=b) q c A n cap _ AY.out.sq.cur AY.out.sq.store hcS hqc PC).mono ?_
         rintro e I4 ⟨⟨UI,UJ,UK,UL,UM,UN⟩,hv,he,hC,hO⟩
         replace he:e=.returned (.agg #[.int .i64 UI,.int .i64 UJ,.int .i64 UK,.string UL,.int .i64 UM,.int .i64 UN]):=he
         subst he
         have aj6:=I hv
         have aeu:=hv.t
         unfold maxLen at aeu
         simp only at aeu
         have AZ:=I (AY.out.gV hO hC)
         clear hC hO hv
         refine hK _ _ ?_
         clear hK K
         refine wpList_plain rfl fun K hK=>?_
         go_simp
         refine hK _ _ ?_
         clear hK K
         refine ko fun w9 lp=>?_
         have qz:U I4 w9:=by rw[lp];exact bl
         have D9:=I (show dK w9 34 6 (.slice (some ⟨I4.heap.size,0,none⟩) 2 2) [] ([R.mk UC UD UE UF UG UH,R.mk UI UJ UK UL UM UN].map R.D)from by
          rw[lp]
          refine dK.C0 I4 34 [R.mk UC UD UE UF UG UH,R.mk UI UJ UK UL UM UN] (fun z hz=>?_) (by show 2<=1000;omega) rfl
          simp only[List.mem_cons,List.not_mem_nil,or_false]at hz
          rcases hz with rfl | rfl
          ·
           exact aj3.out
          ·
           exact aj6.out)
         have T9:=I (AZ.out.on qz)
         clear lp
         obtain⟨lo,fo,o0,o1,o2,o3,o4⟩:=T9.out.ob
         go_wp2_with (fail)
         all_goals go_meet
         all_goals exact⟨_,_,_,_,_,_,_,_,[R.mk UC UD UE UF UG UH,R.mk UI UJ UK UL UM UN],fO,aF,by show 2<=100;omega,by omega,AZ.out.Gu qz (sE _ _) D9.out (fun x hx=>Or.inr (Nat.le_of_eq (Option.some.inj (show some I4.heap.size=some x from hx))))⟩
        ·
         go_upto_region 32 with (go_at_call 75;refine (dN 3 c A n cap _ (HT.out.sq.cur) aO).mono ?_;rintro e w30 ⟨Xf,p30,q30,rfl,hC,hO⟩;have r30:Xf<=2:=q30;clear q30;have AY:=I (HT.out.gV hO hC);obtain⟨lo,fo,o0,o1,o2,o3,o4⟩:=AY.out.ob;have TZ:=Nat.ne_of_lt lo;clear hC hO)
         refine cZ fun I4 PG=>?_
         have AZ:=I (show SO w0 c q A n cap nX oW oM v0 v1 v3 L1 ts pos tk I4 y L2 x2 u b 6 (1+Xf) (.slice A3 its.length c3) (.slice A4 fO.length c4) its fO from by rw[<-PG];exact AY.out.xY (t2:=1+Xf) aO)
         clear PG lo fo o0 o1 o2 o3 o4
         refine wp_region_lit ?_
         refine wpList_plain rfl fun K hK=>?_
         go_simp
         refine hK _ _ ?_
         clear hK K
         refine wpList_plain rfl fun K hK=>?_
         go_simp
         refine hK _ _ ?_
         clear hK K
         refine wpList_plain rfl fun K hK=>?_
         go_simp
         refine hK _ _ ?_
         clear hK K
         refine wpList_plain rfl fun K hK=>?_
         go_simp
         go_at_call 75
         refine (dN 3 c A n cap _ AZ.out.sq.cur aO).mono ?_
         rintro e w32 ⟨y32,p32,q32,rfl,hC,hO⟩
         have r32:y32<=2:=q32
         clear q32
         have T32:=I (AZ.out.gV hO hC)
         refine hK _ _ ?_
         clear hK K
         refine wpList_plain rfl fun K hK=>?_
         go_simp
         go_at_call 73
         refine (kf _ _).mono ?_
         rintro e w33 ⟨rfl,aj7⟩
         have T33:=I (T32.out.on aj7)
         refine hK _ _ ?_
         clear hK K
         refine wpList_plain rfl fun K hK=>?_
         go_simp
         refine hK _ _ ?_
         clear hK K
         refine ko fun w9 lp=>?_
         have qz:U w33 w9:=by rw[lp];exact bl
         have D9:=I (show dK w9 34 6 (.slice (some ⟨w33.heap.size,0,none⟩) 3 3) [] ([R.mk 19 0 0 ByteArray.empty 0 0,R.mk 19 0 0 ByteArray.empty 0 0,R.mk 1 y32 0 ByteArray.empty 0 0].map R.D)from by
          rw[lp]
          refine dK.C0 w33 34 [R.mk 19 0 0 ByteArray.empty 0 0,R.mk 19 0 0 ByteArray.empty 0 0,R.mk 1 y32 0 ByteArray.empty 0 0] (fun z hz=>?_) (by show 3<=1000;omega) rfl
          simp only[List.mem_cons,List.not_mem_nil,or_false]at hz
          rcases hz with rfl | rfl | rfl
          ·
           exact lS 19 0 0 _ aI aI aI aI
          ·
           exact lS 19 0 0 _ aI aI aI aI
          ·
           exact lS 1 y32 0 _ aI aF aI aI)
         have T9:=I (T33.out.on qz)
         clear lp
         obtain⟨lo,fo,o0,o1,o2,o3,o4⟩:=T9.out.ob
         go_wp2_with (fail)
         all_goals go_meet
         all_goals exact⟨_,_,_,_,_,_,_,_,[R.mk 19 0 0 ByteArray.empty 0 0,R.mk 19 0 0 ByteArray.empty 0 0,R.mk 1 y32 0 ByteArray.empty 0 0],fO,aF,by show 3<=100;omega,by omega,T33.out.Gu qz (sE _ _) D9.out (fun x hx=>Or.inr (Nat.le_of_eq (Option.some.inj (show some w33.heap.size=some x from hx))))⟩
        ·
         go_upto_region 35 with (go_at_call 75;refine (dN 23 c A n cap _ (HT.out.sq.cur) aO).mono ?_;rintro e w30 ⟨Xf,p30,q30,rfl,hC,hO⟩;have r30:Xf<=22:=q30;clear q30;have AY:=I (HT.out.gV hO hC);obtain⟨lo,fo,o0,o1,o2,o3,o4⟩:=AY.out.ob;have TZ:=Nat.ne_of_lt lo;clear hC hO)
         refine cZ fun I4 PG=>?_
         have AZ:=I (show SO w0 c q A n cap nX oW oM v0 v1 v3 L1 ts pos tk I4 y L2 x2 u b 7 (1+Xf) (.slice A3 its.length c3) (.slice A4 fO.length c4) its fO from by rw[<-PG];exact AY.out.xY (t2:=1+Xf) aO)
         clear PG lo fo o0 o1 o2 o3 o4
         obtain⟨lo,fo,o0,o1,o2,o3,o4⟩:=AZ.out.ob;have TZ:=Nat.ne_of_lt lo
         obtain⟨t,ht⟩:∃x,1+Xf=x:=⟨_,rfl⟩
         rw[ht]at AZ o1
         clear ht HT AY
         go_upto_region 37 with (go_at_call 80;refine (vg t I4).mono ?_;rintro e w32 ⟨AL,ml,cl,hml,rfl,UO,aex⟩;have T32:=I (AZ.out.on aex))
         clear lo fo o0 o1 o2 o3 o4
         have G32:∃gl:Nat,(ml≠0->AL=some ⟨gl,0,none⟩)/\RG q c nX oW oM v0 v1 v3 L1 w32 y L2 x2 b (.slice A3 its.length c3) (.slice A4 fO.length c4) its fO gl ml:=by
          have h1:=AZ.out.sq.st.box.1
          have h2:=AZ.out.sq.gV.size
          have h3:=AZ.out.ob.1
          have h4:=AZ.out.sq.ne
          have h5:=aex.size
          by_cases DG:ml=0
          ·
           refine⟨w.heap.size,fun h=>absurd DG h,⟨⟨by omega,fun j hj=>by omega⟩,fun f hf hb=>?_,by have h6:=AZ.out.DH.1;omega⟩⟩
           have:=AZ.out.sq.st.gv.low f hf w.heap.size hb
           omega
          ·
           obtain⟨gl,Xa,hgz,hgr⟩:=UO DG
           exact⟨gl,fun _=>Xa,⟨hgr,fun f hf hb=>(by have:=(AZ.out.sq.st.gv.own f hf).lt gl hb;omega),by omega⟩⟩
         obtain⟨gl,hAL,hG⟩:=G32
         have G32:=I hG
         clear UO hG
         go_loopw [11] (fun jv wr=>∃(j2:Nat) (y:Value) (L2:List Nat) (x2:List cr) (u:Int) (vi:Value) (its:List R),jv=.int .i64 j2/\j2<=ml/\x2.length<=X0+j2/\its.length<=40+j2/\Hid (SO w0 c q A n cap nX oW oM v0 v1 v3 L1 ts pos tk wr y L2 x2 u b 7 t vi (.slice A4 fO.length c4) its fO)/\Hid (RG q c nX oW oM v0 v1 v3 L1 wr y L2 x2 b vi (.slice A4 fO.length c4) its fO gl ml)) (fun jv _=>ml - (intOf jv).toNat)
         case atStart=>exact⟨0,_,_,_,_,_,_,rfl,Nat.zero_le _,by omega,by omega,T32,G32⟩
         case round =>
          clear AZ T32 G32 PB hxa hx2
          obtain⟨j2,y,L2,x2,u,vi,its,rfl,UP,aj8,apw,HT,HG⟩:=hrel
          obtain⟨A3,c3,e3⟩:=HT.out.slI
          subst e3
          by_cases uy:j2<ml
          ·
           have hd:decide ((j2:Int)<(ml:Int))=true:=ay aF
           have GC:decide (j2<ml)=true:=ay uy
           have hji:(j2:Int)<(ml:Int):=aF
           have hA:=hAL aF
           subst hA
           obtain⟨B0,hB0,T1⟩:∃B:Nat,x2.length<=B/\B<=X0+j2:=⟨_,Nat.le_refl _,aj8⟩
           go_upto_region 39 with (fail)
           refine ea 11 (fun s f wq=>(s 0=true->(f 0)=.pointer (some ⟨b,3,none⟩))/\(s 1=true->(f 1)=(.slice A3 its.length c3))/\(s 2=true->(f 2)=.pointer (some ⟨c,0,none⟩))/\(s 3=true->(f 3)=.slice (some ⟨gl,0,none⟩) ml cl)/\(s 4=true->(f 4)=.int .i64 j2)/\(s 5=true->(f 5)=.pointer (some ⟨gl,j2,none⟩))/\(s 6=true->∃kk:Int,(f 6)=.int .i64 kk)/\(s 7=true->∃x:R,x.v.Ok/\(f 7)=.agg (oN x).toArray)/\(s 8=true->s 9=false->∃x:R,x.v.Ok/\∃g:Nat,(f 8)=.slice (some ⟨g,0,none⟩) 1 1/\dK wq 34 6 (f 8) [] [x.D])/\(s 10=true->(f 10)=.pointer (some ⟨b,3,none⟩))/\(s 7=false->wq=wr.drew)/\(s 9=false->∃(y:Value) (L2:List Nat) (x2:List cr) (u:Int),x2.length<=B0+1/\SO w0 c q A n cap nX oW oM v0 v1 v3 L1 ts pos tk wq y L2 x2 u b 7 t (.slice A3 its.length c3) (.slice A4 fO.length c4) its fO/\RG q c nX oW oM v0 v1 v3 L1 wq y L2 x2 b (.slice A3 its.length c3) (.slice A4 fO.length c4) its fO gl ml)/\(s 9=true->∃x:R,x.v.Ok/\∃(y:Value) (L2:List Nat) (x2:List cr) (u:Int),x2.length<=B0+1/\SM w0 c q A n cap nX oW oM v0 v1 v3 L1 ts pos tk wq y L2 x2 u b 7 t (.slice A3 its.length c3) (f 9) (.slice A4 fO.length c4) (its++[x]) fO/\RG q c nX oW oM v0 v1 v3 L1 wq y L2 x2 b (f 9) (.slice A4 fO.length c4) (its++[x]) fO gl ml)) [(0,some 170),(1,some 171),(2,some 172),(3,some 173),(4,some 174),(5,some 175),(6,some 176),(7,some 177),(8,some 178),(9,some 179),(10,some 180),(11,none)] rfl aG aG ?hJ rfl ?hstep ?hlast
           case hJ=>exact fun u=>⟨cS,cS,cS,cS,cS,cS,cS,cS,cS,cS,(fun _=>rfl),(fun _=>⟨_,_,_,_,by omega,HT.out.on bl,HG.out.on bl⟩),cS⟩
           case hstep =>
            simp only[gZ,Act.put,aa,ab,ae,af,ag,aj]
            refine (ct (i:=0) (i2:=1) (o:=_) rfl ?s0 (ct (i:=1) (i2:=2) (o:=_) rfl ?s1 (ct (i:=2) (i2:=3) (o:=_) rfl ?s2 (ct (i:=3) (i2:=4) (o:=_) rfl ?s3 (ct (i:=4) (i2:=5) (o:=_) rfl ?s4 (ct (i:=5) (i2:=6) (o:=_) rfl ?s5 (ct (i:=6) (i2:=7) (o:=_) rfl ?s6 (ct (i:=7) (i2:=8) (o:=_) rfl ?s7 (ct (i:=8) (i2:=9) (o:=_) rfl ?s8 (ct (i:=9) (i2:=10) (o:=_) rfl ?s9 (ct (i:=10) (i2:=11) (o:=_) rfl ?s10 (fW aI))))))))))))
            case s0 =>
             intro uf wa s hs ha cl hJ K hK
             obtain⟨ig,fF,ij,pA,pB,jQ,dM,eM,dL,ik,sG,me,tL⟩:=hJ
             simp only[Act.put,aa,ab,ae,af,ag,aj]at hK |-
             go_simp
             exact hK.out _ _ ⟨fun _=>rfl,fF,ij,pA,pB,jQ,dM,eM,dL,ik,sG,me,tL⟩
            case s1 =>
             intro uf wa s hs ha cl hJ K hK
             obtain⟨ig,fF,ij,pA,pB,jQ,dM,eM,dL,ik,sG,me,tL⟩:=hJ
             have PD:=ig (ha 0 aG)
             simp only[Act.put,aa,ab,ae,af,ag,aj]at hK |-
             rw[PD]at hK |-
             have LM:s 9=false:=by cases hq:s 9 with | false=>rfl | true=>exact absurd (cl 9 hq 1 aG) aT
             obtain⟨yy,LL,xx,uu,hxl,T,cj⟩:=me LM
             obtain⟨lo,fo,o0,o1,o2,o3,o4⟩:=T.ob
             clear T
             go_simp
             exact hK.out _ _ ⟨ig,fun _=>rfl,ij,pA,pB,jQ,dM,eM,dL,ik,sG,me,tL⟩
            case s2 =>
             intro uf wa s hs ha cl hJ K hK
             obtain⟨ig,fF,ij,pA,pB,jQ,dM,eM,dL,ik,sG,me,tL⟩:=hJ
             simp only[Act.put,aa,ab,ae,af,ag,aj]at hK |-
             go_simp
             exact hK.out _ _ ⟨ig,fF,fun _=>rfl,pA,pB,jQ,dM,eM,dL,ik,sG,me,tL⟩
            case s3 =>
             intro uf wa s hs ha cl hJ K hK
             obtain⟨ig,fF,ij,pA,pB,jQ,dM,eM,dL,ik,sG,me,tL⟩:=hJ
             simp only[Act.put,aa,ab,ae,af,ag,aj]at hK |-
             go_simp
             exact hK.out _ _ ⟨ig,fF,ij,fun _=>rfl,pB,jQ,dM,eM,dL,ik,sG,me,tL⟩
            case s4 =>
             intro uf wa s hs ha cl hJ K hK
             obtain⟨ig,fF,ij,pA,pB,jQ,dM,eM,dL,ik,sG,me,tL⟩:=hJ
             simp only[Act.put,aa,ab,ae,af,ag,aj]at hK |-
             go_simp
             exact hK.out _ _ ⟨ig,fF,ij,pA,fun _=>rfl,jQ,dM,eM,dL,ik,sG,me,tL⟩
            case s5 =>
             intro uf wa s hs ha cl hJ K hK
             obtain⟨ig,fF,ij,pA,pB,jQ,dM,eM,dL,ik,sG,me,tL⟩:=hJ
             have aj9:=pA (ha 3 aG)
             have aka:=pB (ha 4 aG)
             simp only[Act.put,aa,ab,ae,af,ag,aj]at hK |-
             rw[aj9]at hK |-
             rw[aka]at hK |-
             go_simp
             exact hK.out _ _ ⟨ig,fF,ij,pA,pB,fun _=>rfl,dM,eM,dL,ik,sG,me,tL⟩
            case s6 =>
             intro uf wa s hs ha cl hJ K hK
             obtain⟨ig,fF,ij,pA,pB,jQ,dM,eM,dL,ik,sG,me,tL⟩:=hJ
             have aaB:=jQ (ha 5 aG)
             simp only[Act.put,aa,ab,ae,af,ag,aj]at hK |-
             rw[aaB]at hK |-
             have PH:s 7=false:=by cases hq:s 7 with | false=>rfl | true=>exact absurd (cl 7 hq 6 aG) aT
             have eW:=sG PH
             obtain⟨kk,hkk,oV⟩:=(HG.out.row.block (w':=wa) (by rw[eW];exact Nat.le_refl _) (by rw[eW];rfl)).2 j2 uy
             have JW:=I sG
             clear eW sG PH
             go_simp
             exact hK.out _ _ ⟨ig,fF,ij,pA,pB,jQ,fun _=>⟨kk,rfl⟩,eM,dL,ik,JW.out,me,tL⟩
            case s7 =>
             intro uf wa s hs ha cl hJ K hK
             obtain⟨ig,fF,ij,pA,pB,jQ,dM,eM,dL,ik,sG,me,tL⟩:=hJ
             have PE:=ij (ha 2 aG)
             simp only[Act.put,aa,ab,ae,af,ag,aj]at hK |-
             rw[PE]at hK |-
             obtain⟨kk,Bu⟩:=dM (ha 6 aG)
             rw[Bu]at hK |-
             have LM:s 9=false:=by cases hq:s 9 with | false=>rfl | true=>exact absurd (cl 8 (cl 9 hq 8 aG) 7 aG) aT
             have apx:s 8=false:=by cases hq:s 8 with | false=>rfl | true=>exact absurd (cl 8 hq 7 aG) aT
             have eW:=sG hs
             subst eW
             go_simp
             go_at_call 81
             refine (xD (HT.out.sq.on (w':=wr.drew) bl) kk aF).mono ?_
             rintro e w5 ⟨⟨k5,n5,i5,t5,l5,h5⟩,y5,L5,x5,u5,hv,he,hs5,hl5,hf5,hx5⟩
             replace he:e=.returned (.agg #[.int .i64 k5,.int .i64 n5,.int .i64 i5,.string t5,.int .i64 l5,.int .i64 h5]):=he
             subst he
             have Kv:=HT.out.ob.1
             have T5:SO w0 c q A n cap nX oW oM v0 v1 v3 L1 ts pos tk w5 y5 L5 x5 u5 b 7 t (.slice A3 its.length c3) (.slice A4 fO.length c4) its fO:=SO.other (HT.out.on (w':=wr.drew) bl) hs5 (hf5.2 b Kv (HT.out.DH.2) yf (fun e=>HT.out.low (EO y L2 x2) aJ (Or.inl e))) hf5.1 hx5
             exact hK.out _ _ ⟨ig,fF,ij,pA,pB,jQ,dM,fun _=>⟨.mk k5 n5 i5 t5 l5 h5,hv,rfl⟩,(fun h=>absurd (cl 8 h 7 aG) aT),ik,(fun h=>absurd (show true=false from h) aI),(fun _=>⟨y5,L5,x5,u5,by omega,T5,RG.other (HG.out.on (w':=wr.drew) bl) hf5 hx5⟩),(fun h=>absurd (cl 8 (cl 9 h 8 aG) 7 aG) aT)⟩
            case s8 =>
             intro uf wa s hs ha cl hJ K hK
             obtain⟨ig,fF,ij,pA,pB,jQ,dM,eM,dL,ik,sG,me,tL⟩:=hJ
             simp only[Act.put,aa,ab,ae,af,ag,aj]at hK |-
             obtain⟨x,hx,lr⟩:=eM (ha 7 aG)
             obtain⟨x0,x1,x3,x4,x5,x6⟩:=x
             replace lr:uf 7=.agg #[.int .i64 x0,.int .i64 x1,.int .i64 x3,.string x4,.int .i64 x5,.int .i64 x6]:=lr
             rw[lr]at hK |-
             have kb:U wa (wa.alloc (.cells #[.int .i64 x0,.int .i64 x1,.int .i64 x3,.string x4,.int .i64 x5,.int .i64 x6] 34)):=bl
             go_simp
             exact hK.out _ _ ⟨ig,fF,ij,pA,pB,jQ,dM,eM,(fun _ _=>⟨R.mk x0 x1 x3 x4 x5 x6,hx,wa.heap.size,rfl,dK.C0 wa 34 [R.mk x0 x1 x3 x4 x5 x6] (fun z hz=>by rw[List.mem_singleton.1 hz];exact hx) (by show 1<=1000;omega) rfl⟩),ik,(fun h=>absurd ((ha 7 aG).symm.trans h) aI),(fun h=>by obtain⟨yy,LL,xx,uu,hxl,T,cj⟩:=me h;exact⟨yy,LL,xx,uu,hxl,T.on kb,cj.on kb⟩),(fun h=>absurd (cl 9 h 8 aG) aT)⟩
            case s9 =>
             intro uf wa s hs ha cl hJ K hK
             obtain⟨ig,fF,ij,pA,pB,jQ,dM,eM,dL,ik,sG,me,tL⟩:=hJ
             have Bs:=fF (ha 1 aG)
             simp only[Act.put,aa,ab,ae,af,ag,aj]at hK |-
             rw[Bs]at hK |-
             obtain⟨x,hx,g,Bt,CX⟩:=dL (ha 8 aG) hs
             rw[Bt]at hK |- CX
             obtain⟨yy,LL,xx,uu,hxl,T,cj⟩:=me hs
             obtain⟨nw,mi⟩:=CX.src
             obtain⟨iv,ye,DN,DO,DP⟩:=info_parts o9
             refine jq (.tmp 171) (.tmp 178) 27 rfl 34 iv (.agg #[.int .i64 0,.int .i64 0,.int .i64 0,.string ByteArray.empty,.int .i64 0,.int .i64 0]) 6 56 underlying27 ye DN DO DP aI aI T.Lz mi 1 rfl rfl (fun b _ h=>by cases h) (by simp only[ar];omega) (by simp only[ar];unfold maxLen;omega) (fun v9 w9 mq mr lp=>?_)
             have aay:dK w9 34 6 v9 [] ((its++[x]).map R.D):=by simpa using mq
             (try simp only[Act.put,aa,ab,ae,af,ag,aj])
             exact hK.out _ _ ⟨ig,fF,ij,pA,pB,jQ,dM,eM,(fun _ h=>absurd (show true=false from h) aI),ik,(fun h=>absurd ((ha 7 aG).symm.trans h) aI),(fun h=>absurd (show true=false from h) aI),(fun _=>⟨x,hx,yy,LL,xx,uu,hxl,T.aec (U.refl wa) mr aay lp,RG.grow cj (U.refl wa) mr lp⟩)⟩
            case s10 =>
             intro uf wa s hs ha cl hJ K hK
             obtain⟨ig,fF,ij,pA,pB,jQ,dM,eM,dL,ik,sG,me,tL⟩:=hJ
             simp only[Act.put,aa,ab,ae,af,ag,aj]at hK |-
             go_simp
             exact hK.out _ _ ⟨ig,fF,ij,pA,pB,jQ,dM,eM,dL,fun _=>rfl,sG,me,tL⟩
           case hlast =>
            simp only[gZ,Act.put,aa,ab,ae,af,ag,aj]
            intro uf wa ⟨s,fh,hJ⟩ K hK
            obtain⟨ig,fF,ij,pA,pB,jQ,dM,eM,dL,ik,sG,me,tL⟩:=hJ
            have I2:=ik (fh 10 aI)
            obtain⟨x,hx,yy,LL,xx,uu,hxl,M,cj⟩:=tL (fh 9 aI)
            clear me tL dL eM fF ig ij ik pA pB jQ dM sG fh
            obtain⟨A9,c9,L9,I3,-⟩:=M.Lz.ownRow
            simp only[ar,List.length_append,aD,aE,Nat.zero_add]at I3
            rw[I3]at hK M cj |-
            rw[I2]at hK |-
            have T9:=I M.rT
            have G9:=I (cj.set 3 (.slice A9 (its.length+1) c9))
            obtain⟨lo,fo,o0,o1,o2,o3,o4⟩:=M.ob
            go_simp
            refine hK.out undef _ ?_
            clear hK I3 I2 M lo fo o0 o1 o2 o3 o4
            go_wp2_with (fail)
            all_goals go_roundw
            case rel=>exact⟨j2+1,_,_,_,_,_,its++[x],by go_num,by omega,by omega,by rw[List.length_append];show its.length+1<=40+(j2+1);omega,T9,G9⟩
            case measure=>simp[intOf];omega
          ·
           have hd:decide ((j2:Int)<(ml:Int))=false:=ax aF
           have GC:decide (j2<ml)=false:=ax uy
           exact PF
        ·
         go_upto_region 42 with (first
          | (go_at_call 73;refine (kf _ _).mono ?_;rintro e w30 ⟨rfl,aaC⟩;have AY:=I (HT.out.on aaC))
          | (go_at_call 76;refine (EZ AY.out.sq (w1:=w30) (U.refl w30) 3 0 [R.mk 1 0 0 ByteArray.empty 0 0] (fun z hz=>by rw[List.mem_singleton.1 hz];exact lS 1 0 0 _ aI aI aI aI) aI (cs:=#[.int .i64 1,.int .i64 0,.int .i64 0,.string ByteArray.empty,.int .i64 0,.int .i64 0]) rfl aO lM aF).mono ?_;rintro e I4 ⟨y9,L9,x9,u9,rfl,Xg,Ub,tu,hf9,hx9⟩;have AZ:=I (SO.other AY.out Xg (hf9 b AY.out.ob.1 AY.out.DH.2 (fun e=>AY.out.low (EO y L2 x2) aJ (Or.inl e))) tu hx9);have Xh:x9.length<=X0+1:=aF;clear Xg Ub tu hf9 hx9))
         clear lo fo o0 o1 o2 o3 o4
         have aaD:(O.mk nX oW x9 oM ts pos [] [] [] false tk 400 u9).objects.length<=1048576:=by show x9.length<=1048576;omega
         refine wp_region_lit ?_
         refine wpList_plain rfl fun K hK=>?_
         go_simp
         refine hK _ _ ?_
         clear hK K
         refine wpList_plain rfl fun K hK=>?_
         go_simp
         refine hK _ _ ?_
         clear hK K
         refine wpList_plain rfl fun K hK=>?_
         go_simp
         refine hK _ _ ?_
         clear hK K
         refine wpList_plain rfl fun K hK=>?_
         go_simp
         go_at_call 25
         refine (mT (O.mk nX oW x9 oM ts pos [] [] [] false tk 400 u9) (fun b=>w0.heap.size<=b) q c A n cap _ AZ.out.sq.cur AZ.out.sq.store hcS hqc aaD).mono ?_
         rintro e w32 ⟨⟨UQ,UR,US,UT,UU,UW⟩,hv,he,hC,hO⟩
         replace he:e=.returned (.agg #[.int .i64 UQ,.int .i64 UR,.int .i64 US,.string UT,.int .i64 UU,.int .i64 UW]):=he
         subst he
         have akc:=I hv
         have aeA:=hv.t
         unfold maxLen at aeA
         simp only at aeA
         have T32:=I (AZ.out.gV hO hC)
         clear hC hO hv
         refine hK _ _ ?_
         clear hK K
         refine wpList_plain rfl fun K hK=>?_
         go_simp
         refine hK _ _ ?_
         clear hK K
         refine ko fun w9 lp=>?_
         have qz:U w32 w9:=by rw[lp];exact bl
         have D9:=I (show dK w9 34 6 (.slice (some ⟨w32.heap.size,0,none⟩) 2 2) [] ([R.mk 5 x2.length 0 ByteArray.empty 0 0,R.mk UQ UR US UT UU UW].map R.D)from by
          rw[lp]
          refine dK.C0 w32 34 [R.mk 5 x2.length 0 ByteArray.empty 0 0,R.mk UQ UR US UT UU UW] (fun z hz=>?_) (by show 2<=1000;omega) rfl
          simp only[List.mem_cons,List.not_mem_nil,or_false]at hz
          rcases hz with rfl | rfl
          ·
           exact⟨fM (by show -100<=(5:Int);omega) (by show (5:Int)<=100;omega),by show dT (x2.length:Int);unfold dT;omega,lM,by show ByteArray.empty.size<=maxLen;decide,lM,lM⟩
          ·
           exact akc.out)
         have T9:=I (T32.out.on qz)
         clear lp
         obtain⟨lo,fo,o0,o1,o2,o3,o4⟩:=T9.out.ob
         go_wp2_with (fail)
         all_goals go_meet
         all_goals exact⟨_,_,_,_,_,_,_,_,[R.mk 5 x2.length 0 ByteArray.empty 0 0,R.mk UQ UR US UT UU UW],fO,aF,by show 2<=100;omega,by omega,T32.out.Gu qz (sE _ _) D9.out (fun x hx=>Or.inr (Nat.le_of_eq (Option.some.inj (show some w32.heap.size=some x from hx))))⟩
        ·
         clear lo fo o0 o1 o2 o3 o4
         go_upto_region 44 with (fail)
         refine wp_region_lit ?_
         refine wpList_plain rfl fun K hK=>?_
         go_simp
         go_at_call 77
         refine (ni _ _).mono ?_
         rintro e w30 ⟨rfl,aaC⟩
         have AY:=I (HT.out.on aaC)
         refine hK _ _ ?_
         clear hK K
         refine wpList_plain rfl fun K hK=>?_
         go_simp
         go_at_call 73
         refine (kf _ _).mono ?_
         rintro e I4 ⟨rfl,akd⟩
         have AZ:=I (AY.out.on akd)
         refine hK _ _ ?_
         clear hK K
         refine wpList_plain rfl fun K hK=>?_
         go_simp
         refine hK _ _ ?_
         clear hK K
         refine ko fun w9 lp=>?_
         have qz:U I4 w9:=by rw[lp];exact bl
         have D9:=I (show dK w9 34 6 (.slice (some ⟨I4.heap.size,0,none⟩) 2 2) [] ([R.mk 2 0 0 ⟨#[120,121]⟩ 0 0,R.mk 1 2 0 ByteArray.empty 0 0].map R.D)from by
          rw[lp]
          refine dK.C0 I4 34 [R.mk 2 0 0 ⟨#[120,121]⟩ 0 0,R.mk 1 2 0 ByteArray.empty 0 0] (fun z hz=>?_) (by show 2<=1000;omega) rfl
          simp only[List.mem_cons,List.not_mem_nil,or_false]at hz
          rcases hz with rfl | rfl
          ·
           exact lS 2 0 0 _ aI aI aI aI
          ·
           exact lS 1 2 0 _ aI aI aI aI)
         have T9:=I (AZ.out.on qz)
         clear lp
         obtain⟨lo,fo,o0,o1,o2,o3,o4⟩:=T9.out.ob
         go_wp2_with (fail)
         all_goals go_meet
         all_goals exact⟨_,_,_,_,_,_,_,_,[R.mk 2 0 0 ⟨#[120,121]⟩ 0 0,R.mk 1 2 0 ByteArray.empty 0 0],fO,aF,by show 2<=100;omega,by omega,AZ.out.Gu qz (sE _ _) D9.out (fun x hx=>Or.inr (Nat.le_of_eq (Option.some.inj (show some I4.heap.size=some x from hx))))⟩
        ·
         have e3:(k==3)=false:=beq_eq_false_iff_ne.2 k3
         have e5:(k==5)=false:=beq_eq_false_iff_ne.2 k5
         have e6:(k==6)=false:=beq_eq_false_iff_ne.2 k6
         have e7:(k==7)=false:=beq_eq_false_iff_ne.2 k7
         have e8:(k==8)=false:=beq_eq_false_iff_ne.2 k8
         have e9:(k==9)=false:=beq_eq_false_iff_ne.2 k9
         exact PF
       case rest =>
        clear HT lo fo o0 o1 o2 o3 o4 PB aes hxa
        obtain⟨y,L2,x2,u,k,t,vi,vk,its,fO,apz,aeB,aeC,hT⟩:=hcut
        have AY:=I hT
        clear hT
        obtain⟨A3,c3,e3⟩:=AY.out.slI
        obtain⟨A4,c4,e4⟩:=AY.out.slK
        subst e3 e4
        obtain⟨lo,fo,o0,o1,o2,o3,o4⟩:=AY.out.ob
        obtain⟨M,hd,hn,hM⟩:=AY.out.take
        have HD:=I hd
        have HM:=I hM
        clear hd hM
        go_wp2_with (go_at_call 76;refine (Pq AY.out.sq.drop k t (.slice A3 its.length c3) (.slice A4 fO.length c4) its fO M HD.out hn HM.out aF ⟨aeB,aeC⟩).mono ?_;rintro e w40 ⟨y9,ob9,u9,rfl,hq9,-,-⟩;have T40:=I hq9;clear hq9)
        all_goals go_roundw
        case rel=>exact⟨i+1,_,_,x2++[ob9],_,by go_num,by omega,by simp,by rw[List.length_append];show x2.length+1<=1+3*(i+1);omega,T40⟩
        case measure=>simp[intOf];omega
  ·
   have Pw:decide ((i:Int)<(N1:Int))=false:=aH
   have hdn:decide (i<N1)=false:=aH
   go_upto_if 202 with (go_at_call 42;refine (lQ 2 c A n cap _ HS.out.cur aO).mono ?_;rintro e w40 ⟨z,rfl,hC,hO⟩;have T40:=I (HS.out.xB hO hC);clear hC hO)
   clear HS
   go_cut []from 203 to 207 (fun wx=>∃(v8:Value) (x8:List cV),x8.length<=1/\FQ w0 c q A n cap nX oW oM v0 v1 v3 L1 ts pos tk wx y L2 x2 u v8 x8)
   case first =>
    cases z
    ·
     go_wp2_with (fail)
     all_goals go_meet
     all_goals exact⟨_,[],by decide,FQ.of T40.out⟩
    ·
     skip
     go_upto_region 47 with (fail)
     refine wp_region_lit ?_
     refine wpList_plain rfl fun K hK=>?_
     go_simp
     refine hK _ _ ?_
     clear hK K
     refine wpList_plain rfl fun K hK=>?_
     go_simp
     go_at_call 75
     refine (dN 2 c A n cap _ T40.out.cur aO).mono ?_
     rintro e w41 ⟨y41,p41,q41,rfl,hC,hO⟩
     have T41:=I (T40.out.xB hO hC)
     have r41:y41<=1:=q41
     clear hC hO q41
     refine hK _ _ ?_
     clear hK K
     refine wpList_plain rfl fun K hK=>?_
     go_simp
     refine hK _ _ ?_
     clear hK K
     refine wpList_plain rfl fun K hK=>?_
     go_simp
     refine hK _ _ ?_
     clear hK K
     refine ko fun w9 lp=>?_
     have qz:U w41 w9:=by rw[lp];exact bl
     have T9:=I (T41.out.on qz)
     have HW9:=I lp
     clear lp
     obtain⟨lP,l4,gM,gN,gH,gO,gP,gQ,gR,gS,gT,gU,fu,fv,fw⟩:=T9.out.st.box
     go_wp2_with (fail)
     all_goals go_meet
     all_goals exact⟨_,[.mk y41 0],by show 1<=1;omega,by rw[HW9.out];exact FQ.act T41.out aO⟩
   case rest =>
    clear T40
    obtain⟨v8,x8,hx8,hT⟩:=hcut
    have T41:=I hT
    clear hT
    go_upto_if 209 with (go_at_call 42;refine (lQ 10 c A n cap _ T41.out.cur aO).mono ?_;rintro e w42 ⟨z,rfl,hC,hO⟩;have UX:=I (T41.out.xB hO hC);clear hC hO)
    clear T41
    have Kw:=I UX.out.Kp
    have GD:x2.length<=25:=aF
    have HU:=I (show 0<=u/\u<=25 from⟨UX.out.ok.2.2.1.1,by have h:=UX.out.ok.2.2.1.2.1;omega⟩)
    go_cut []from 210 to 220 (fun wx=>∃x2:List cr,0<x2.length/\x2.length<=25/\(∀o,o∈x2->o.its.length<=100/\o.fO.length<=100)/\FH w0 c q A n cap wx (O.mk nX oW x2 oM ts pos [] [] x8 false tk 400 u))
    case first =>
     cases z
     ·
      go_wp2_with (fail)
      all_goals go_meet
      all_goals exact⟨x2,Xe,GD,Kw.out,UX.out.fin⟩
     ·
      skip
      obtain⟨A2,c2,-,e2,-,-⟩:=UX.out.aar.ownRow
      rw[ar]at e2
      subst e2
      obtain⟨g,o,mO,-⟩:=UX.out.tag rfl 0 Xe lM
      subst mO
      go_upto_region 49 with (fail)
      refine ea 11 (fun s f wq=>(s 0=true->(f 0)=.pointer (some ⟨q,2,none⟩))/\(s 1=true->(f 1)=.slice (some ⟨g,o,none⟩) x2.length c2)/\(s 2=true->(f 2)=.pointer (some ⟨c,0,none⟩))/\(s 3=true->(f 3)=.pointer (some ⟨q,2,none⟩))/\(s 4=true->(f 4)=.slice (some ⟨g,o,none⟩) x2.length c2)/\(s 5=true->(f 5)=.int .i64 x2.length)/\(s 6=true->∃j:Nat,j<x2.length/\(f 6)=.int .i64 j)/\(s 7=true->(f 7)=.pointer (some ⟨c,0,none⟩))/\(s 8=true->∃tg:Int,dT tg/\(f 8)=.int .i64 tg)/\(s 9=true->∃j:Nat,j<x2.length/\(f 9)=.pointer (some ⟨g,o+j*5,none⟩))/\(s 10=true->∃j:Nat,j<x2.length/\(f 10)=.pointer (some ⟨g,o+j*5+1,none⟩))/\(FQ w0 c q A n cap nX oW oM v0 v1 v3 L1 ts pos tk wq (.slice (some ⟨g,o,none⟩) x2.length c2) L2 x2 u v8 x8)) [(0,some 210),(1,some 211),(2,some 212),(3,some 213),(4,some 214),(5,some 215),(6,some 216),(7,some 217),(8,some 218),(9,some 219),(10,some 220),(11,none)] rfl aG aG ?hJ rfl ?hstep ?hlast
      case hJ=>exact fun u=>⟨cS,cS,cS,cS,cS,cS,cS,cS,cS,cS,cS,UX.out.xB (ic.dH bl) (UX.out.cur.de bl)⟩
      case hstep =>
       simp only[gZ,Act.put,aa,ab,ae,af,ag,aj]
       refine (ct (i:=0) (i2:=1) (o:=_) rfl ?s0 (ct (i:=1) (i2:=2) (o:=_) rfl ?s1 (ct (i:=2) (i2:=3) (o:=_) rfl ?s2 (ct (i:=3) (i2:=4) (o:=_) rfl ?s3 (ct (i:=4) (i2:=5) (o:=_) rfl ?s4 (ct (i:=5) (i2:=6) (o:=_) rfl ?s5 (ct (i:=6) (i2:=7) (o:=_) rfl ?s6 (ct (i:=7) (i2:=8) (o:=_) rfl ?s7 (ct (i:=8) (i2:=9) (o:=_) rfl ?s8 (ct (i:=9) (i2:=10) (o:=_) rfl ?s9 (ct (i:=10) (i2:=11) (o:=_) rfl ?s10 (fW aI))))))))))))
       case s0 =>
        intro uf wa s hs ha cl hJ K hK
        obtain⟨ig,fF,ij,pC,dt,ef,pD,pE,pF,jQ,ik,me⟩:=hJ
        simp only[Act.put,aa,ab,ae,af,ag,aj]at hK |-
        go_simp
        exact hK.out _ _ ⟨fun _=>rfl,fF,ij,pC,dt,ef,pD,pE,pF,jQ,ik,me⟩
       case s1 =>
        intro uf wa s hs ha cl hJ K hK
        obtain⟨ig,fF,ij,pC,dt,ef,pD,pE,pF,jQ,ik,me⟩:=hJ
        have PD:=ig (ha 0 aG)
        simp only[Act.put,aa,ab,ae,af,ag,aj]at hK |-
        rw[PD]at hK |-
        obtain⟨lP,l4,gM,gN,gH,gO,gP,gQ,gR,gS,gT,gU,fu,fv,fw⟩:=me.st.box
        go_simp
        exact hK.out _ _ ⟨ig,fun _=>rfl,ij,pC,dt,ef,pD,pE,pF,jQ,ik,me⟩
       case s2 =>
        intro uf wa s hs ha cl hJ K hK
        obtain⟨ig,fF,ij,pC,dt,ef,pD,pE,pF,jQ,ik,me⟩:=hJ
        simp only[Act.put,aa,ab,ae,af,ag,aj]at hK |-
        go_simp
        exact hK.out _ _ ⟨ig,fF,fun _=>rfl,pC,dt,ef,pD,pE,pF,jQ,ik,me⟩
       case s3 =>
        intro uf wa s hs ha cl hJ K hK
        obtain⟨ig,fF,ij,pC,dt,ef,pD,pE,pF,jQ,ik,me⟩:=hJ
        simp only[Act.put,aa,ab,ae,af,ag,aj]at hK |-
        go_simp
        exact hK.out _ _ ⟨ig,fF,ij,fun _=>rfl,dt,ef,pD,pE,pF,jQ,ik,me⟩
       case s4 =>
        intro uf wa s hs ha cl hJ K hK
        obtain⟨ig,fF,ij,pC,dt,ef,pD,pE,pF,jQ,ik,me⟩:=hJ
        have akf:=pC (ha 3 aG)
        simp only[Act.put,aa,ab,ae,af,ag,aj]at hK |-
        rw[akf]at hK |-
        obtain⟨lP,l4,gM,gN,gH,gO,gP,gQ,gR,gS,gT,gU,fu,fv,fw⟩:=me.st.box
        go_simp
        exact hK.out _ _ ⟨ig,fF,ij,pC,fun _=>rfl,ef,pD,pE,pF,jQ,ik,me⟩
       case s5 =>
        intro uf wa s hs ha cl hJ K hK
        obtain⟨ig,fF,ij,pC,dt,ef,pD,pE,pF,jQ,ik,me⟩:=hJ
        have tM:=dt (ha 4 aG)
        simp only[Act.put,aa,ab,ae,af,ag,aj]at hK |-
        rw[tM]at hK |-
        go_simp
        exact hK.out _ _ ⟨ig,fF,ij,pC,dt,fun _=>rfl,pD,pE,pF,jQ,ik,me⟩
       case s6 =>
        intro uf wa s hs ha cl hJ K hK
        obtain⟨ig,fF,ij,pC,dt,ef,pD,pE,pF,jQ,ik,me⟩:=hJ
        have PE:=ij (ha 2 aG)
        have Fb:=ef (ha 5 aG)
        simp only[Act.put,aa,ab,ae,af,ag,aj]at hK |-
        rw[PE]at hK |-
        rw[Fb]at hK |-
        go_simp
        go_at_call 75
        refine (dN x2.length c A n cap wa me.cur aO).mono ?_
        rintro e w5 ⟨y5,p5,q5,rfl,hC,hO⟩
        obtain⟨j5,rfl⟩:=Int.eq_ofNat_of_zero_le p5
        have h5:=pz q5
        exact hK.out _ _ ⟨ig,fF,ij,pC,dt,ef,fun _=>⟨j5,by omega,rfl⟩,pE,pF,jQ,ik,me.xB hO hC⟩
       case s7 =>
        intro uf wa s hs ha cl hJ K hK
        obtain⟨ig,fF,ij,pC,dt,ef,pD,pE,pF,jQ,ik,me⟩:=hJ
        simp only[Act.put,aa,ab,ae,af,ag,aj]at hK |-
        go_simp
        exact hK.out _ _ ⟨ig,fF,ij,pC,dt,ef,pD,fun _=>rfl,pF,jQ,ik,me⟩
       case s8 =>
        intro uf wa s hs ha cl hJ K hK
        obtain⟨ig,fF,ij,pC,dt,ef,pD,pE,pF,jQ,ik,me⟩:=hJ
        have akg:=pE (ha 7 aG)
        simp only[Act.put,aa,ab,ae,af,ag,aj]at hK |-
        rw[akg]at hK |-
        go_simp
        go_at_call 75
        refine (dN 4 c A n cap wa me.cur aO).mono ?_
        rintro e w5 ⟨y5,p5,q5,rfl,hC,hO⟩
        have h5:=pz q5
        exact hK.out _ _ ⟨ig,fF,ij,pC,dt,ef,pD,pE,fun _=>⟨y5,by unfold dT;omega,rfl⟩,jQ,ik,me.xB hO hC⟩
       case s9 =>
        intro uf wa s hs ha cl hJ K hK
        obtain⟨ig,fF,ij,pC,dt,ef,pD,pE,pF,jQ,ik,me⟩:=hJ
        have Bs:=fF (ha 1 aG)
        obtain⟨j,hj,akh⟩:=pD (ha 6 aG)
        simp only[Act.put,aa,ab,ae,af,ag,aj]at hK |-
        rw[Bs]at hK |-
        rw[akh]at hK |-
        have hji:(j:Int)<(x2.length:Int):=aF
        go_simp
        exact hK.out _ _ ⟨ig,fF,ij,pC,dt,ef,pD,pE,pF,fun _=>⟨j,hj,rfl⟩,ik,me⟩
       case s10 =>
        intro uf wa s hs ha cl hJ K hK
        obtain⟨ig,fF,ij,pC,dt,ef,pD,pE,pF,jQ,ik,me⟩:=hJ
        obtain⟨j,hj,aaB⟩:=jQ (ha 9 aG)
        simp only[Act.put,aa,ab,ae,af,ag,aj]at hK |-
        rw[aaB]at hK |-
        go_simp
        exact hK.out _ _ ⟨ig,fF,ij,pC,dt,ef,pD,pE,pF,jQ,fun _=>⟨j,hj,rfl⟩,me⟩
      case hlast =>
       simp only[gZ,Act.put,aa,ab,ae,af,ag,aj]
       intro uf wa ⟨s,fh,hJ⟩ K hK
       obtain⟨ig,fF,ij,pC,dt,ef,pD,pE,pF,jQ,ik,me⟩:=hJ
       obtain⟨j,hj,I2⟩:=ik (fh 10 aI)
       obtain⟨tg,htg,aki⟩:=pF (fh 8 aI)
       clear ig fF ij pC dt ef pD pE pF jQ ik fh
       rw[I2,aki]at hK |-
       obtain⟨g',o',ego,UO,hgf,⟨u0,hgc⟩,hFH⟩:=me.tag rfl j hj htg
       obtain⟨rfl,rfl⟩:g=g'/\o=o':=by simpa using ego
       have T43:=I hFH
       clear hFH ego
       have apF:=hgf (o+j*5+1)
       go_simp
       refine hK.out undef _ ?_
       clear hK
       go_wp2_with (fail)
       all_goals go_meet
       all_goals exact⟨_,by rw[List.length_set];omega,by rw[List.length_set];omega,fun ob zy=>(List.mem_or_eq_of_mem_set zy).elim (Kw.out ob) (fun e=>by subst e;exact LC (Kw.out _ (List.getElem_mem hj))),T43.out⟩
    case rest =>
     clear UX Kw Xe GD hx2 Pw hdn
     obtain⟨x2,Xe,GD,Gh,hT⟩:=hcut
     have Kw:=I Gh
     have T43:=I hT
     clear hT Gh
     go_upto_if 222 with (go_at_call 42;refine (lQ 20 c A n cap _ T43.out.cur aO).mono ?_;rintro e w44 ⟨z,rfl,hC,hO⟩;have T44:=I (T43.out.xB hO hC);clear hC hO)
     clear T43
     go_cut []from 223 to 226 (fun wx=>∃x2:List cr,x2.length<=25/\(∀o,o∈x2->o.its.length<=100/\o.fO.length<=100)/\FH w0 c q A n cap wx (O.mk nX oW x2 oM ts pos [] [] x8 false tk 400 u))
     case first =>
      cases z
      ·
       go_wp2_with (fail)
       all_goals go_meet
       all_goals exact⟨x2,GD,Kw.out,T44.out⟩
      ·
       skip
       obtain⟨A0,c0,A1,c1,A2,c2,A3,c3,A6,c6,A7,c7,A8,c8,Pg,gM,gN,gH,gO,gP,gQ,gR,gS,gT,gU,fu,fv,fw,r0,r1,r2,r3,i4,i5,r6,r7,r8,i10,i11,i12⟩:=cv.cells T44.out.st
       have hfr:=T44.out.fr 2
       by_cases vx:c2=1
       ·
        subst vx
        go_wp2_with (fail)
        all_goals go_meet
        all_goals exact⟨x2.tail,by rw[List.length_tail];omega,fun ob zy=>Kw.out ob (List.mem_of_mem_tail zy),T44.out.cut mj.out gH (fun _ h=>⟨by omega,by unfold maxLen;omega⟩) (fun h h2=>absurd aF h2)⟩
       ·
        go_wp2_with (fail)
        all_goals go_meet
        all_goals exact⟨x2.tail,by rw[List.length_tail];omega,fun ob zy=>Kw.out ob (List.mem_of_mem_tail zy),T44.out.cut mj.out gH (fun h1 h=>⟨by omega,by omega⟩) (fun _ _ g o e=>by rw[e];rfl)⟩
     case rest =>
      clear T44 Kw Xe GD
      obtain⟨x2,GD,Gh,hT⟩:=hcut
      have Kw:=I Gh
      clear Gh
      have T45:=I hT
      clear hT
      obtain⟨A0,c0,A1,c1,A2,c2,A3,c3,A6,c6,A7,c7,A8,c8,Pg,gM,gN,gH,gO,gP,gQ,gR,gS,gT,gU,fu,fv,fw,r0,r1,r2,r3,i4,i5,r6,r7,r8,i10,i11,i12⟩:=cv.cells T45.out.st
      have HRS:=I (Ku.out.block T45.out.gV.size (T45.out.gV.block w.heap.size Ku.out.1 iP))
      have aeE:=I (FH.out HC.out Gz HZ0.out T45.out [.slice A0 nX.length c0,.slice A1 oW.length c1,.slice A2 x2.length c2,.slice A3 oM.length c3,.string ts,.int .i64 pos,.slice A6 ([]:List cx).length c6,.slice A7 ([]:List cx).length c7,.slice A8 x8.length c8,.bool false,.int .i64 tk,.int .i64 400,.int .i64 u] (O.mG (x9:=false) r0 r1 r2 r3 i4 i5 r6 r7 r8 i10 i11 i12))
      clear r0 r1 r2 r3 i4 i5 r6 r7 r8 i10 i11 i12
      go_upto_region 52 with (fail)
      refine wp_region_lit ?_
      refine wpList_plain rfl fun K hK=>?_
      go_simp
      refine hK _ _ ?_
      clear hK K
      refine wpList_store_mid rfl 30 (.tmp 2) (.tmp 227) rfl w.heap.size 0 #[.slice A0 nX.length c0,.slice A1 oW.length c1,.slice A2 x2.length c2,.slice A3 oM.length c3,.string ts,.int .i64 pos,.slice A6 ([]:List cx).length c6,.slice A7 ([]:List cx).length c7,.slice A8 x8.length c8,.bool false,.int .i64 tk,.int .i64 400,.int .i64 u] rfl rfl HRS.out.there aG aW ?_
      refine ko fun wz mW=>?_
      have SZ:SB wz w.heap.size (.slice A0 nX.length c0) (.slice A1 oW.length c1) (.slice A2 x2.length c2) (.slice A3 oM.length c3) (.string ts) (.int .i64 pos) (.slice A6 ([]:List cx).length c6) (.slice A7 ([]:List cx).length c7) (.slice A8 x8.length c8) (.bool false) (.int .i64 tk) (.int .i64 400) (.int .i64 u):=by rw[mW];exact HRS.out.fill (.slice A0 nX.length c0) (.slice A1 oW.length c1) (.slice A2 x2.length c2) (.slice A3 oM.length c3) (.string ts) (.int .i64 pos) (.slice A6 ([]:List cx).length c6) (.slice A7 ([]:List cx).length c7) (.slice A8 x8.length c8) (.bool false) (.int .i64 tk) (.int .i64 400) (.int .i64 u)
      have HZ:Y.cA wz (fun b=>w.heap.size<=b) (O.mk nX oW x2 oM ts pos [] [] x8 false tk 400 u).D [.slice A0 nX.length c0,.slice A1 oW.length c1,.slice A2 x2.length c2,.slice A3 oM.length c3,.string ts,.int .i64 pos,.slice A6 ([]:List cx).length c6,.slice A7 ([]:List cx).length c7,.slice A8 x8.length c8,.bool false,.int .i64 tk,.int .i64 400,.int .i64 u]/\kC wz c A n cap/\ic c w wz:=by rw[mW];exact aeE.out
      have HZZ:=I HZ
      clear HZ mW aeE
      obtain⟨-,-,d0,d1,d2,d3,d4,d5,d6,d7,d8,d9,d10,d11,d12⟩:=SZ
      refine wpList_nil ?_
      go_simp
      rename_i Xi
      refine Xi _ _ ?_
      clear Xi
      refine wp_ret ?_
      exact bodyPost_ret (v:=.agg #[.slice A0 nX.length c0,.slice A1 oW.length c1,.slice A2 x2.length c2,.slice A3 oM.length c3,.string ts,.int .i64 pos,.slice A6 ([]:List cx).length c6,.slice A7 ([]:List cx).length c7,.slice A8 x8.length c8,.bool false,.int .i64 tk,.int .i64 400,.int .i64 u]) (by simp[results,results23,d0,d1,d2,d3,d4,d5,d6,d7,d8,d9,d10,d11,d12,go_sem];try rfl) rfl ⟨_,[.slice A0 nX.length c0,.slice A1 oW.length c1,.slice A2 x2.length c2,.slice A3 oM.length c3,.string ts,.int .i64 pos,.slice A6 ([]:List cx).length c6,.slice A7 ([]:List cx).length c7,.slice A8 x8.length c8,.bool false,.int .i64 tk,.int .i64 400,.int .i64 u],rfl,HZZ.out.1,GD,Kw.out,⟨HU.out.1,HU.out.2,Px GD Kw.out hx8⟩,HZZ.out.2.1,HZZ.out.2.2⟩
end Go.Proofs.YtjngkknbpfgdcaaGreatDoor
