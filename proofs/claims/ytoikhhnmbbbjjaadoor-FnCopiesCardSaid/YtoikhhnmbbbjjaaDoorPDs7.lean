/- A store that is drawn: l13Store. -/
import Derived.Test.YtoikhhnmbbbjjaaDoorPr
import Derived.Test.YtoikhhnmbbbjjaaDoorPDs5
import Derived.Test.YtoikhhnmbbbjjaaDoorPK0
import Derived.Deep.CutRange
import Derived.Deep.CutBlock
namespace Go.Proofs.YtoikhhnmbbbjjaaDoor
set_option linter.unusedVariables false
set_option linter.unusedSimpArgs false
set_option maxRecDepth 100000
open Go.RowKit
def StoreP (w:World) (c:Nat) (A:Option Addr) (n cap:Nat) (e:Ending) (w':World):Prop :=
 ∃(t:TStore) (vs:List Value),e=.returned (.agg vs.toArray)∧Dat.HoldVals w' (fun b=>w.heap.size≤b) t.D vs∧t.objects.length≤25∧(∀o,o∈t.objects→o.its.length≤100∧o.kys.length≤100)∧(0≤t.made∧t.made≤25∧Dat.lnL t.D≤100000)∧Cur w' c A n cap∧Oth c w w'
theorem lnR_val (l:List TValue):Dat.lnR (l.map TValue.D)=0:=by
 induction l with
 | nil=>simp[Dat.lnR]
 | cons x r ih =>
  obtain⟨k,n,i,t,lo,hi⟩:=x
  simp only[List.map_cons,Dat.lnR,ih,TValue.D_mk,Dat.lnL,Dat.ln]
theorem lnR_act (l:List TActive):Dat.lnR (l.map TActive.D)=0:=by
 induction l with
 | nil=>simp[Dat.lnR]
 | cons x r ih =>
  obtain⟨k,n⟩:=x
  simp only[List.map_cons,Dat.lnR,ih,TActive.D_mk,Dat.lnL,Dat.ln]
theorem store_ln {x2:List TObject} {x8:List TActive} {ts:ByteArray} {pos tk u:Int} (h2:x2.length≤25) (hs:∀o,o∈x2→o.its.length≤100∧o.kys.length≤100) (h8:x8.length≤1):Dat.lnL (TStore.mk nmD rcD x2 glD ts pos [] [] x8 false tk 400 u).D≤100000:=by
 have ho:Dat.lnR (x2.map TObject.D)≤x2.length*200:=lnR_le_of TObject.D 200 x2 fun o ho=>by
  have h:=hs o ho
  obtain⟨k,t,s,i,y⟩:=o
  have h3:i.length≤100:=h.1
  have h4:y.length≤100:=h.2
  simp only[TObject.D_mk,Dat.lnL,Dat.ln,List.length_map,lnR_val]
  omega
 have hn:Dat.lnR (nmD.map fun x=>[Dat.str x])=0:=rfl
 have hr:Dat.lnR (rcD.map TRecordType.D)=2:=rfl
 simp only[TStore.D_mk,Dat.lnL,Dat.ln,List.length_map,lnR_val,lnR_act,hn,hr,List.map_nil,List.length_nil,Dat.lnR]
 have e1:nmD.length=2:=rfl
 have e2:rcD.length=1:=rfl
 have e3:glD.length=2:=rfl
 omega
set_option maxHeartbeats 8000000 in
theorem l13Store_any (c:Nat) (A:Option Addr) (n cap:Nat) (w:World) (hc:Cur w c A n cap):Calls Tryd.prog 26 #[.pointer (some ⟨c,0,none⟩)] w (StoreP w c A n cap):=by
 have HC:=hide hc
 have hlt:=hc.1
 have hne:w.heap.size≠c:=by omega
 clear hc
 go_enter Tryd.func26,Tryd.ntmps26
 go_upto_region 1 with (fail)
 refine wp_named2 fun w0 hw0=>?_
 have hz0:w0.heap.size=w.heap.size+1:=by rw[←hw0];simp
 have hb0:Bel w w0:=by rw[←hw0];exact bl
 have HC0:=hide (HC.out.bel hb0)
 have HRB:=hide (show SB w0 w.heap.size (.slice none 0 0) (.slice none 0 0) (.slice none 0 0) (.slice none 0 0) (.string ByteArray.empty) (.int .i64 0) (.slice none 0 0) (.slice none 0 0) (.slice none 0 0) (.bool false) (.int .i64 0) (.int .i64 0) (.int .i64 0)from by rw[←hw0];exact SB.new w 30)
 have HZ0:=hide hz0
 have hzl:w.heap.size<w0.heap.size:=by omega
 clear hw0 hz0
 go_upto_region 2 with (first
  | (go_at_call 48;refine (l11IntD_any _ _).mono ?_;rintro e w1 ⟨rfl,hb1⟩;obtain⟨L1,hE1⟩:=ents_start hb1;have E1:=hide hE1;have k1:Bel w0 w1:=bl;have hz1:w0.heap.size+1+1+1≤w1.heap.size:=(by have h:=hb1.size;simpa using h);have C1:=hide (HC0.out.bel k1);clear hb1 hE1)
  | (go_at_call 49;refine (l1Pick_any (w1.heap.size+1) 3 6 3 c A n cap ((w1.alloc (.cells #[.int .i64 0,.int .i64 0,.int .i64 0,.string ByteArray.empty,.int .i64 0,.int .i64 0,.int .i64 1,.int .i64 3,.int .i64 0,.string ByteArray.empty,.int .i64 0,.int .i64 0] 34)).alloc _) (C1.out.bel bl) (by have h:=rowT_new (w:=w1.alloc (.cells #[.int .i64 0,.int .i64 0,.int .i64 0,.string ByteArray.empty,.int .i64 0,.int .i64 0,.int .i64 1,.int .i64 3,.int .i64 0,.string ByteArray.empty,.int .i64 0,.int .i64 0] 34)) (t:=9) 6 [⟨#[]⟩,⟨#[98,97,110,97,110,97]⟩,⟨#[97,98,44,99]⟩] (by decide +kernel);rw[World.size_alloc]at h;exact h) (by omega) (by omega) (by omega)).mono ?_;rintro e w2 ⟨ts,hts,rfl,hC,hO⟩;have HTS:=hide hts;have C2:=hide hC;have GE:=hide (start_glo E1.out (by omega) hO (by omega));clear hC hO hts)
  | (go_at_call 50;refine (l1Below_any 9 c A n cap _ (C2.out) (by unfold InI;omega)).mono ?_;rintro e w3 ⟨y3,p3,q3,rfl,hC,hO⟩;have r3:y3≤8:=q3;clear q3;have C3:=hide hC;have O3:=hide (GE.out.2.1.trans hO);have E3:=hide (GE.out.1.oth hO (by omega));have hz3:=hO.size;have hz2:=GE.out.2.2;clear hC hO))
 refine wp_named2 fun w4 hw4=>?_
 have hb4:Bel w3 w4:=by rw[←hw4];exact bl
 have hz34:w3.heap.size<w4.heap.size:=by rw[←hw4];simp
 have hts7:ts.size≤6:=HTS.out
 have S4:=hide (show SQ w0 c w3.heap.size A n cap nmD rcD glD (.slice (some ⟨w0.heap.size,0,none⟩) 2 2) (.slice (some ⟨w0.heap.size+1+1,0,none⟩) 1 1) (.slice (some ⟨w1.heap.size,0,none⟩) 2 2) L1 ts 1 y3 w4 nilS [] [] 0 []from SQ.begin HC0.out (C3.out.bel hb4) (((Oth.of_bel k1).trans O3.out).trans (Oth.of_bel hb4)) (by simpa using E3.out.bel hb4) (by rw[←hw4];exact SB.new w3 _) (fun f hf hb=>by have:=(E3.out.own f (by simpa using hf)).lt w3.heap.size hb;omega) (by omega) (by unfold InI;omega) (by unfold InI;omega) (by unfold maxLen;omega))
 obtain⟨q,hq⟩:∃x,w3.heap.size=x:=⟨_,rfl⟩
 obtain⟨v0,hv0⟩:∃x:Value,(.slice (some ⟨w0.heap.size,0,none⟩) 2 2)=x:=⟨_,rfl⟩
 obtain⟨v1,hv1⟩:∃x:Value,(.slice (some ⟨w0.heap.size+1+1,0,none⟩) 1 1)=x:=⟨_,rfl⟩
 obtain⟨v3,hv3⟩:∃x:Value,(.slice (some ⟨w1.heap.size,0,none⟩) 2 2)=x:=⟨_,rfl⟩
 have hq0:w0.heap.size≤q:=by omega
 rw[hq,hv0,hv1,hv3]at S4
 simp only[hq]
 clear hw4 hv0 hv1 hv3 E1 GE E3 C1 C2 C3 O3 hz1 hz2 hz3 hz34 hb4 k1 HTS hq
 have hqc:q≠c:=by have:=hb0.size;omega
 have hcS:¬(fun b=>w0.heap.size≤b) c:=by have:=hb0.size;show ¬w0.heap.size≤c;omega
 have hB:=S4.out.st.box
 obtain⟨hlb,hfb,kb_0,kb_1,kb_2,kb_3,kb_4,kb_5,kb_6,kb_7,kb_8,kb_9,kb_10,kb_11,kb_12⟩:=hB
 go_upto_region 3 with (go_at_call 50;refine (l1Below_any _ c A n cap _ (S4.out.cur) (by unfold InI;omega)).mono ?_;rintro e w5 ⟨y5,p5,q5,rfl,hC,hO⟩;have r5:y5≤100:=(by have h:=below_lt q5;omega);clear q5;have S5:=hide (S4.out.oth' hO hC);clear hlb hfb kb_0 kb_1 kb_2 kb_3 kb_4 kb_5 kb_6 kb_7 kb_8 kb_9 kb_10 kb_11 kb_12;obtain⟨hlb,hfb,kb_0,kb_1,kb_2,kb_3,kb_4,kb_5,kb_6,kb_7,kb_8,kb_9,kb_10,kb_11,kb_12⟩:=S5.out.st.box;clear hC hO)
 refine wp_named2 fun w6 hw6=>?_
 have S6:=hide (show SQ w0 c q A n cap nmD rcD glD v0 v1 v3 L1 ts (1+y5) y3 w6 nilS [] [] 0 []from by rw[←hw6];exact S5.out.pos (p2:=1+y5) (by unfold InI;omega))
 obtain⟨pos,hpos⟩:∃x,1+y5=x:=⟨_,rfl⟩
 obtain⟨tk,htk⟩:∃x,y3=x:=⟨_,rfl⟩
 rw[hpos,htk]at S6
 clear hlb hfb kb_0 kb_1 kb_2 kb_3 kb_4 kb_5 kb_6 kb_7 kb_8 kb_9 kb_10 kb_11 kb_12 hw6 hpos htk S4 S5 r5
 go_upto_region 4 with (first
  | (go_at_call 48;refine (l11IntD_any _ _).mono ?_;rintro e w7 ⟨rfl,hb7⟩;have k7:Bel w6 w7:=bl)
  | (go_at_call 51;refine (l11TextD_any _ _).mono ?_;rintro e w8 ⟨rfl,hb8⟩;have k8:Bel w6 w8:=bl)
  | (go_at_call 35;refine (new_lit S6.out (w1:=w8) k8 1 0 obD obD_ok (by decide) (cs:=#[.int .i64 0,.int .i64 0,.int .i64 0,.string ⟨#[]⟩,.int .i64 0,.int .i64 0,.int .i64 1,.int .i64 1,.int .i64 0,.string ⟨#[]⟩,.int .i64 0,.int .i64 0,.int .i64 2,.int .i64 0,.int .i64 0,.string ⟨#[97,98]⟩,.int .i64 0,.int .i64 0]) rfl (by unfold InI;omega) in0 (by decide)).mono ?_;rintro e w9 ⟨yA,LA9,yL,yu,rfl,hs,hn2,-,-,-⟩;have S9:=hide hs;have hn3:0<yL.length:=(by rw[hn2];simp);replace hn2:yL.length≤1:=(by simpa using Nat.le_of_eq hn2);clear hs))
 clear S6 k7 k8 hb7 hb8
 go_upto_region 6 with (go_at_call 50;refine (l1Below_any 7 c A n cap _ (S9.out.cur) (by unfold InI;omega)).mono ?_;rintro e w10 ⟨y10,p10,q10,rfl,hC,hO⟩;have r10:y10≤6:=q10;clear q10;have S10:=hide (S9.out.oth' hO hC);clear S9;clear hC hO)
 obtain⟨N1,hN1⟩:=Int.eq_ofNat_of_zero_le (show 0≤2+y10 by omega)
 have hN8:N1≤8:=by omega
 simp only[hN1]
 clear hN1 r10 p10
 go_loopw [5] (fun iv wr=>∃(i:Nat) (y:Value) (L2:List Nat) (x2:List TObject) (u:Int),iv=.int .i64 i∧i≤N1∧0<x2.length∧x2.length≤1+3*i∧Hid (SQ w0 c q A n cap nmD rcD glD v0 v1 v3 L1 ts pos tk wr y L2 x2 u [])) (fun iv _=>N1 - (intOf iv).toNat)
 case atStart=>exact⟨0,_,_,_,_,rfl,Nat.zero_le _,hn3,by omega,S10⟩
 case round =>
  obtain⟨i,y,L2,x2,u,rfl,hi,hx0,hx2,HS⟩:=hrel
  clear S10
  by_cases h:i<N1
  ·
   skip
   have hdc:decide ((i:Int)<(N1:Int))=true:=by simp;omega
   have hdn:decide (i<N1)=true:=by simp[h]
   go_upto_region 9 with (go_at_call 50;refine (l1Below_any 5 c A n cap _ (HS.out.cur) (by unfold InI;omega)).mono ?_;rintro e w11 ⟨y11,p11,q11,rfl,hC,hO⟩;have r11:y11≤4:=q11;clear q11;have S11:=hide (HS.out.oth' hO hC);clear hC hO)
   refine wp_named2 fun w12 hw12=>?_
   obtain⟨b,hbe⟩:∃x,w11.heap.size=x:=⟨_,rfl⟩
   have T12:=hide (show SO w0 c q A n cap nmD rcD glD v0 v1 v3 L1 ts pos tk w12 y L2 x2 u b (2+y11) 0 nilS nilS [] []from by rw[←hbe];exact SO.start S11.out (by rw[←hw12];exact bl) (by rw[←hw12];exact OB.new w11 _) (Nat.le_refl _) (by unfold InI;omega))
   simp only[hbe]
   obtain⟨k0,hk0⟩:∃x,2+y11=x:=⟨_,rfl⟩
   rw[hk0]at T12
   clear hw12 S11 HS hk0 r11 p11 hbe
   go_upto_if 53 with (go_at_call 27;refine (l1Once_any 4 c A n cap _ T12.out.sq.cur (by unfold InI;omega)).mono ?_;rintro e w13 ⟨z,rfl,hC,hO⟩;have T13:=hide (T12.out.oth hO hC);clear hC hO)
   clear T12
   go_cut []from 54 to 58 (fun wx=>∃k,SO w0 c q A n cap nmD rcD glD v0 v1 v3 L1 ts pos tk wx y L2 x2 u b k 0 nilS nilS [] [])
   case first =>
    cases z
    ·
     go_wp2_with (fail)
     all_goals go_meet
     all_goals exact⟨_,T13.out⟩
    ·
     go_wp2_with (go_at_call 52;refine (l1PickInt_any w13.heap.size 5 5 c A n cap (w13.alloc _) (T13.out.sq.cur.bel bl) (rowI_new [1,8,9,7,7] (by decide)) (by have:=T13.out.sq.cur.1;omega) (by omega) (by omega)).mono ?_;rintro e w14 ⟨k1,hk1,rfl,hC,hO⟩;have HK:=hide hk1;have T14:=hide ((T13.out.on (w':=w13.alloc _) bl).oth hO hC);clear hC hO hk1;obtain⟨lo,fo,o0,o1,o2,o3,o4⟩:=T14.out.ob)
     all_goals go_meet
     all_goals exact⟨_,T14.out.put0 HK.out⟩
   case rest =>
    obtain⟨k,T⟩:=hcut
    clear T13
    have T13:=hide T
    clear T
    go_upto_if 61 with (first
     | (go_at_call 50;refine (l1Below_any 5 c A n cap _ (T13.out.sq.cur) (by unfold InI;omega)).mono ?_;rintro e w15 ⟨y15,p15,q15,rfl,hC,hO⟩;have r15:y15≤4:=q15;clear q15;have T15:=hide (T13.out.oth hO hC);clear hC hO)
     | (go_at_call 27;refine (l1Once_any 30 c A n cap _ T15.out.sq.cur (by unfold InI;omega)).mono ?_;rintro e w16 ⟨z,rfl,hC,hO⟩;have T16:=hide (T15.out.oth hO hC);clear hC hO))
    clear T13 T15
    go_cut [7]from 62 to 64 (fun v wx=>∃K:Nat,v=.int .i64 K∧K≤40∧SO w0 c q A n cap nmD rcD glD v0 v1 v3 L1 ts pos tk wx y L2 x2 u b k 0 nilS nilS [] [])
    case first =>
     cases z
     ·
      obtain⟨K,rfl⟩:=Int.eq_ofNat_of_zero_le p15
      go_wp2_with (fail)
      all_goals go_meet
      all_goals exact⟨K,rfl,by omega,T16.out⟩
     ·
      go_wp2_with (go_at_call 50;refine (l1Below_any 3 c A n cap _ (T16.out.sq.cur) (by unfold InI;omega)).mono ?_;rintro e w17 ⟨y17,p17,q17,rfl,hC,hO⟩;have r17:y17≤2:=q17;clear q17;have T17:=hide (T16.out.oth hO hC);clear hC hO)
      all_goals go_meet
      all_goals exact⟨(38+y17).toNat,by go_num,by omega,T17.out⟩
    case rest =>
     obtain⟨K,rfl,hK40,T⟩:=hcut
     clear T16
     have T16:=hide T
     clear T
     go_upto_region 15 with (fail)
     go_loopw [8] (fun jv wr=>∃(j:Nat) (vi vk:Value) (its kys:List TValue),jv=.int .i64 j∧j≤K∧its.length≤j∧kys.length≤j∧Hid (SO w0 c q A n cap nmD rcD glD v0 v1 v3 L1 ts pos tk wr y L2 x2 u b k 0 vi vk its kys)) (fun jv _=>K - (intOf jv).toNat)
     case atStart=>exact⟨0,_,_,_,_,rfl,Nat.zero_le _,Nat.zero_le _,Nat.zero_le _,T16⟩
     case round =>
      obtain⟨j,vi,vk,its,kys,rfl,hj,hil,hkl,HT⟩:=hrel
      clear T16
      by_cases hjk:j<K
      ·
       skip
       have hdj:decide ((j:Int)<(K:Int))=true:=by simp;omega
       have hdm:decide (j<K)=true:=by simp[hjk]
       go_upto_region 18 with (go_at_call 29;refine (l13Some_any (TStore.mk nmD rcD x2 glD ts pos [] [] [] false tk 400 u) (fun b=>w0.heap.size≤b) q c A n cap _ HT.out.sq.cur HT.out.sq.store hcS hqc (by show x2.length≤1048576;omega)).mono ?_;rintro e w18 ⟨⟨vk18,vn18,vi18,vt18,vl18,vh18⟩,hv,he,hC,hO⟩;replace he:e=.returned (.agg #[.int .i64 vk18,.int .i64 vn18,.int .i64 vi18,.string vt18,.int .i64 vl18,.int .i64 vh18]):=he;subst he;have HV18:=hide hv;have hs18:=hv.t;unfold maxLen at hs18;simp only at hs18;have T18:=hide (HT.out.oth hO hC);clear hC hO hv)
       refine wp_named2 fun w19 hw19=>?_
       obtain⟨bv,hbv⟩:∃x,w18.heap.size=x:=⟨_,rfl⟩
       have hb19:Bel w18 w19:=by rw[←hw19];exact bl
       have V19:=hide (show V6 w19 bv vk18 vn18 vi18 vt18 vl18 vh18 from by rw[←hw19,←hbv];exact V6.new w18 _)
       have T19:=hide (T18.out.on hb19)
       have L19:=hide (show ∀f,f∈LA nmD rcD v0 v1 L1++EO y L2 x2 :: LG glD v3 [EV vi its,EV vk kys]→¬Blk f.v f.L bv from by rw[←hbv];exact T18.out.lt)
       have hbq:w0.heap.size≤bv∧bv≠q∧bv≠b:=by have h1:=T18.out.sq.oth.size;have h2:=T18.out.sq.st.box.1;have h3:=T18.out.ob.1;omega
       simp only[hbv]
       clear hw19 hbv hb19 T18 HT
       go_upto_if 73 with (fail)
       go_cut []from 73 to 75 (fun wx=>∃(a0 a1 a2:Int) (a3:ByteArray) (a4 a5:Int),(TValue.mk a0 a1 a2 a3 a4 a5).v.Ok∧V6 wx bv a0 a1 a2 a3 a4 a5∧SO w0 c q A n cap nmD rcD glD v0 v1 v3 L1 ts pos tk wx y L2 x2 u b k 0 vi vk its kys)
       case first =>
        by_cases h30:(30:Int)<(K:Int)
        ·
         have d30:decide ((30:Int)<(K:Int))=true:=decide_eq_true h30
         have hv19:=V19.out
         obtain⟨vl,vf,c0,c1,c2,c3,c4,c5⟩:=hv19
         go_wp2_with (go_at_call 48;refine (l11IntD_any _ _).mono ?_;rintro e w20 ⟨rfl,hb20⟩;have T20:=hide (T19.out.on hb20);have V20:=hide (V19.out.on hb20);clear vl vf c0 c1 c2 c3 c4 c5;have hv20:=V20.out;obtain⟨vl,vf,c0,c1,c2,c3,c4,c5⟩:=hv20)
         all_goals go_meet
         all_goals exact⟨1,j,0,ByteArray.empty,0,0,⟨inI_small (by show -100≤(1:Int);omega) (by show (1:Int)≤100;omega),by show InI (j:Int);unfold InI;omega,in0,by show ByteArray.empty.size≤maxLen;decide,in0,in0⟩,V20.out.put 1 j 0 ByteArray.empty 0 0,T20.out.butb (ButB.six _ _ _ _ _ _ _ _) L19.out hbq.1 hbq.2.1 hbq.2.2⟩
        ·
         have d30:decide ((30:Int)<(K:Int))=false:=decide_eq_false h30
         go_wp2_with (fail)
         all_goals go_meet
         all_goals exact⟨_,_,_,_,_,_,HV18.out,V19.out,T19.out⟩
       case rest =>
        obtain⟨a0,a1,a2,a3,a4,a5,ha,hV,hT⟩:=hcut
        have HA:=hide ha
        have V20:=hide hV
        have T20:=hide hT
        have ha3:=ha.t
        unfold maxLen at ha3
        simp only[TValue.v]at ha3
        clear ha hV hT V19 T19 HV18 hs18
        obtain⟨A3,c3,e3⟩:=T20.out.slI
        obtain⟨A4,c4,e4⟩:=T20.out.slK
        subst e3 e4
        go_upto_region 20 with (fail)
        go_cut [89]from 76 to 89 (fun v wx=>∃z:Bool,v=.bool z∧V6 wx bv a0 a1 a2 a3 a4 a5∧SO w0 c q A n cap nmD rcD glD v0 v1 v3 L1 ts pos tk wx y L2 x2 u b k 0 (.slice A3 its.length c3) (.slice A4 kys.length c4) its kys)
        case first =>
         obtain⟨lo,fo,o0,o1,o2,o3,o4⟩:=T20.out.ob
         obtain⟨vl,vf,d0,d1,d2,d3,d4,d5⟩:=V20.out
         have hq4:=T20.out.own4.row (S:=fun b=>w0.heap.size≤b) (T20.out.sq.st.ents.low (EV (.slice A4 kys.length c4) kys) (by simp))
         obtain⟨A5,c5,e5,hr5⟩:=hq4
         rw[List.length_map]at e5
         obtain⟨rfl,rfl⟩:A4=A5∧c4=c5:=by simpa using e5
         have HR5:=hide hr5
         clear hr5 e5
         rcases (show k=3∨k=4∨(k≠3∧k≠4) by omega)with rfl | rfl | ⟨k3,k4⟩
         ·
          go_wp2_with (go_at_call 53;refine (keyD_any 3 0 0 its.length kys a0 a1 a2 a3 a4 a5 (fun b=>w0.heap.size≤b) _ A3 A4 c3 c4 (Row.bel bl HR5.out) (by unfold maxLen;omega)).mono ?_;rintro e w21 ⟨⟨x,rfl⟩,hb21⟩;have T21:=hide (T20.out.on hb21);have V21:=hide (V20.out.on hb21))
          all_goals go_meet
          all_goals exact⟨_,rfl,V21.out,T21.out⟩
         ·
          go_wp2_with (go_at_call 53;refine (keyD_any 4 0 0 its.length kys a0 a1 a2 a3 a4 a5 (fun b=>w0.heap.size≤b) _ A3 A4 c3 c4 (Row.bel bl HR5.out) (by unfold maxLen;omega)).mono ?_;rintro e w21 ⟨⟨x,rfl⟩,hb21⟩;have T21:=hide (T20.out.on hb21);have V21:=hide (V20.out.on hb21))
          all_goals go_meet
          all_goals exact⟨_,rfl,V21.out,T21.out⟩
         ·
          have e1:(k==3)=false:=beq_eq_false_iff_ne.2 k3
          have e2:(k==4)=false:=beq_eq_false_iff_ne.2 k4
          go_wp2_with (fail)
          all_goals go_meet
          all_goals exact⟨_,rfl,V20.out,T20.out⟩
        case rest =>
         obtain⟨z,rfl,hV,hT⟩:=hcut
         clear V20 T20
         have V20:=hide hV
         have T20:=hide hT
         clear hV hT
         go_upto_if 89 with (fail)
         go_cut []from 90 to 95 (fun wx=>∃(vk:Value) (kys:List TValue),kys.length≤j+1∧V6 wx bv a0 a1 a2 a3 a4 a5∧SO w0 c q A n cap nmD rcD glD v0 v1 v3 L1 ts pos tk wx y L2 x2 u b k 0 (.slice A3 its.length c3) vk its kys)
         case first =>
          cases z
          ·
           go_wp2_with (fail)
           all_goals go_meet
           all_goals exact⟨_,_,by omega,V20.out,T20.out⟩
          ·
           skip
           obtain⟨lo,fo,o0,o1,o2,o3,o4⟩:=T20.out.ob
           obtain⟨vl,vf,d0,d1,d2,d3,d4,d5⟩:=V20.out
           obtain⟨iv,hiv,zv0,zv1,zv2⟩:=info_parts infoVal
           obtain⟨nw,hsr⟩:=(OwnD.litV wc 34 [TValue.mk a0 a1 a2 a3 a4 a5] (fun x hx=>by rw[List.mem_singleton.1 hx];exact HA.out) (by show 1≤1000;omega) (cs:=#[.int .i64 a0,.int .i64 a1,.int .i64 a2,.string a3,.int .i64 a4,.int .i64 a5]) rfl).src
           have HSR:=hide hsr
           have kb:Bel wc (wc.alloc (.cells #[.int .i64 a0,.int .i64 a1,.int .i64 a2,.string a3,.int .i64 a4,.int .i64 a5] 34)):=bl
           clear hsr
           go_wp2_with (at_builtin;refine wpList_append_D rfl (.tmp 91) (.tmp 93) 27 rfl 34 iv (.agg #[.int .i64 0,.int .i64 0,.int .i64 0,.string ByteArray.empty,.int .i64 0,.int .i64 0]) 6 56 Tryd.underlying27 hiv zv0 zv1 zv2 (by decide) (by decide) (T20.out.own4.bel kb) HSR.out 1 rfl rfl (fun b _ h=>by cases h) ?c2 ?c3 ?_)
           case c2=>simp only[List.length_map,List.length_cons,List.length_nil];omega
           case c3=>simp only[List.length_map,List.length_cons,List.length_nil];unfold maxLen;omega
           intro v9 w9 hO9 hg9 hw9
           have HO9:=hide (show OwnD w9 34 6 v9 [] ((kys++[TValue.mk a0 a1 a2 a3 a4 a5]).map TValue.D)from by simpa using hO9)
           have HG9:=hide hg9
           have HW9:=hide hw9
           have hz9:=kb.size
           have OB9:=hide (T20.out.ob4 kb hg9)
           have V9:=hide (V20.out.block (w':=w9) (Nat.le_trans hz9 hg9.size) ((hg9.block bv (Nat.lt_of_lt_of_le V20.out.lt hz9) (fun e=>L19.out (EV (.slice A4 kys.length c4) kys) (by simp) (Or.inl e.symm))).trans (Below.block kb bv V20.out.lt)))
           obtain⟨A9,c9,L9,e9,-⟩:=HO9.out.ownRow
           simp only[List.length_map,List.length_append,List.length_cons,List.length_nil,Nat.zero_add]at e9
           subst e9
           clear lo fo o0 o1 o2 o3 o4 vl vf d0 d1 d2 d3 d4 d5 hO9 hg9 hw9
           obtain⟨lo,fo,o0,o1,o2,o3,o4⟩:=OB9.out
           go_wp2_with (fail)
           all_goals go_meet
           all_goals exact⟨_,kys++[TValue.mk a0 a1 a2 a3 a4 a5],by rw[List.length_append];show kys.length+1≤j+1;omega,V9.out.far (Ne.symm hbq.2.2) _ _,T20.out.grow4 kb HG9.out HO9.out (fun x hx=>(HW9.out x hx).imp id (fun h=>by omega))⟩
         case rest =>
          clear V20 T20 hkl L19
          obtain⟨vk,kys,hkl,hV,hT⟩:=hcut
          have V20:=hide hV
          have T20:=hide hT
          clear hV hT
          go_upto_region 22 with (fail)
          go_cut [109]from 96 to 109 (fun v wx=>∃z:Bool,v=.bool z∧V6 wx bv a0 a1 a2 a3 a4 a5∧SO w0 c q A n cap nmD rcD glD v0 v1 v3 L1 ts pos tk wx y L2 x2 u b k 0 (.slice A3 its.length c3) vk its kys)
          case first =>
           obtain⟨lo,fo,o0,o1,o2,o3,o4⟩:=T20.out.ob
           rcases (show k=1∨k=2∨(k≠1∧k≠2) by omega)with rfl | rfl | ⟨k1,k2⟩
           ·
            by_cases h24:its.length<24
            ·
             have d24:decide ((its.length:Int)<24)=true:=decide_eq_true (by omega)
             go_wp2_with (fail)
             all_goals go_meet
             all_goals exact⟨_,rfl,V20.out,T20.out⟩
            ·
             have d24:decide ((its.length:Int)<24)=false:=decide_eq_false (by omega)
             go_wp2_with (fail)
             all_goals go_meet
             all_goals exact⟨_,rfl,V20.out,T20.out⟩
           ·
            go_wp2_with (fail)
            all_goals go_meet
            all_goals exact⟨_,rfl,V20.out,T20.out⟩
           ·
            have e1:(k==1)=false:=beq_eq_false_iff_ne.2 k1
            have e2:(k==2)=false:=beq_eq_false_iff_ne.2 k2
            go_wp2_with (fail)
            all_goals go_meet
            all_goals exact⟨_,rfl,V20.out,T20.out⟩
          case rest =>
           obtain⟨z,rfl,hV,hT⟩:=hcut
           clear V20 T20
           have V20:=hide hV
           have T20:=hide hT
           clear hV hT
           go_upto_if 109 with (fail)
           cases z
           ·
            go_wp2_with (fail)
            all_goals go_roundw
            case rel=>exact⟨j+1,_,_,its,kys,by go_num,by omega,by omega,hkl,T20⟩
            case measure=>simp[intOf];omega
           ·
            skip
            obtain⟨lo,fo,o0,o1,o2,o3,o4⟩:=T20.out.ob
            obtain⟨vl,vf,d0,d1,d2,d3,d4,d5⟩:=V20.out
            obtain⟨iv,hiv,zv0,zv1,zv2⟩:=info_parts infoVal
            obtain⟨nw,hsr⟩:=(OwnD.litV wc 34 [TValue.mk a0 a1 a2 a3 a4 a5] (fun x hx=>by rw[List.mem_singleton.1 hx];exact HA.out) (by show 1≤1000;omega) (cs:=#[.int .i64 a0,.int .i64 a1,.int .i64 a2,.string a3,.int .i64 a4,.int .i64 a5]) rfl).src
            have HSR:=hide hsr
            have kb:Bel wc (wc.alloc (.cells #[.int .i64 a0,.int .i64 a1,.int .i64 a2,.string a3,.int .i64 a4,.int .i64 a5] 34)):=bl
            clear hsr
            go_wp2_with (at_builtin;refine wpList_append_D rfl (.tmp 111) (.tmp 113) 27 rfl 34 iv (.agg #[.int .i64 0,.int .i64 0,.int .i64 0,.string ByteArray.empty,.int .i64 0,.int .i64 0]) 6 56 Tryd.underlying27 hiv zv0 zv1 zv2 (by decide) (by decide) (T20.out.own3.bel kb) HSR.out 1 rfl rfl (fun b _ h=>by cases h) ?c2 ?c3 ?_)
            case c2=>simp only[List.length_map,List.length_cons,List.length_nil];omega
            case c3=>simp only[List.length_map,List.length_cons,List.length_nil];unfold maxLen;omega
            intro v9 w9 hO9 hg9 hw9
            have HO9:=hide (show OwnD w9 34 6 v9 [] ((its++[TValue.mk a0 a1 a2 a3 a4 a5]).map TValue.D)from by simpa using hO9)
            have HG9:=hide hg9
            have HW9:=hide hw9
            have hz9:=kb.size
            have OB9:=hide (T20.out.ob3 kb hg9)
            obtain⟨A9,c9,L9,e9,-⟩:=HO9.out.ownRow
            simp only[List.length_map,List.length_append,List.length_cons,List.length_nil,Nat.zero_add]at e9
            subst e9
            clear lo fo o0 o1 o2 o3 o4 vl vf d0 d1 d2 d3 d4 d5 hO9 hg9 hw9
            obtain⟨lo,fo,o0,o1,o2,o3,o4⟩:=OB9.out
            go_wp2_with (fail)
            all_goals go_roundw
            case rel=>exact⟨j+1,_,_,its++[TValue.mk a0 a1 a2 a3 a4 a5],kys,by go_num,by omega,by rw[List.length_append];show its.length+1≤j+1;omega,hkl,hide (T20.out.grow3 kb HG9.out HO9.out (fun x hx=>(HW9.out x hx).imp id (fun h=>by omega)))⟩
            case measure=>simp[intOf];omega
      ·
       have hdj:decide ((j:Int)<(K:Int))=false:=by simp;omega
       have hdm:decide (j<K)=false:=by simp;omega
       have hil40:its.length≤40:=by omega
       have hkl40:kys.length≤40:=by omega
       clear hil hkl hj
       obtain⟨A3,c3,e3⟩:=HT.out.slI
       obtain⟨A4,c4,e4⟩:=HT.out.slK
       subst e3 e4
       have hob:=HT.out.ob
       obtain⟨lo,fo,o0,o1,o2,o3,o4⟩:=hob
       have hbc:b≠c:=by have h1:=HT.out.neb.1;have h2:=HT.out.sq.ne.1;omega
       obtain⟨X0,hxa,hxb⟩:∃m:Nat,x2.length≤m∧m≤1+3*i:=⟨_,Nat.le_refl _,hx2⟩
       go_upto_block 4 with (fail)
       go_cut [10,11,12]from 118 to 198 (fun u10 u11 u12 wx=>∃(y:Value) (L2:List Nat) (x2b:List TObject) (u k t:Int) (vi vk:Value) (its kys:List TValue),x2b.length≤X0+2∧its.length≤100∧kys.length≤100∧SO w0 c q A n cap nmD rcD glD v0 v1 v3 L1 ts pos tk wx y L2 x2b u b k t vi vk its kys)
       case first =>
        have HLX_x2:(TStore.mk nmD rcD x2 glD ts pos [] [] [] false tk 400 u).objects.length≤1048576:=by show x2.length≤1048576;omega
        rcases (show k=3∨k=5∨k=6∨k=7∨k=8∨k=9∨(k≠3∧k≠5∧k≠6∧k≠7∧k≠8∧k≠9) by omega)with rfl | rfl | rfl | rfl | rfl | rfl | ⟨k3,k5,k6,k7,k8,k9⟩
        ·
         go_upto_region 26 with (fail)
         clear lo fo o0 o1 o2 o3 o4
         go_loopw [] (fun wr=>∃(vi:Value) (its:List TValue),its.length≤41∧Hid (SO w0 c q A n cap nmD rcD glD v0 v1 v3 L1 ts pos tk wr y L2 x2 u b 3 0 vi (.slice A4 kys.length c4) its kys)) (fun wr=>kys.length+1 - lenAt wr b)
         case atStart=>exact⟨_,_,by omega,HT⟩
         case round =>
          clear HT hil40
          obtain⟨vi,its,hil,HT⟩:=hrel
          obtain⟨A3,c3,e3⟩:=HT.out.slI
          subst e3
          have hob:=HT.out.ob
          obtain⟨lo,fo,o0,o1,o2,o3,o4⟩:=hob
          have hL0:=lenAt_of o3
          by_cases hc:its.length≤kys.length
          ·
           have hd:decide ((its.length:Int)≤(kys.length:Int))=true:=decide_eq_true (by omega)
           have hd2:decide (its.length≤kys.length)=true:=decide_eq_true hc
           go_upto_region 27 with (fail)
           clear lo fo o0 o1 o2 o3 o4 hd hd2
           refine wp_region_inv 7 (fun s f wq=>(s 0=true→(f 0)=.pointer (some ⟨b,3,none⟩))∧(s 1=true→(f 1)=(.slice A3 its.length c3))∧(s 2=true→(f 2)=.pointer (some ⟨c,0,none⟩))∧(s 3=true→∃x:TValue,x.v.Ok∧(f 3)=.agg (cellsV x).toArray)∧(s 4=true→s 5=false→∃x:TValue,x.v.Ok∧∃g:Nat,(f 4)=.slice (some ⟨g,0,none⟩) 1 1∧OwnD wq 34 6 (f 4) [] [x.D])∧(s 6=true→(f 6)=.pointer (some ⟨b,3,none⟩))∧(s 5=false→SO w0 c q A n cap nmD rcD glD v0 v1 v3 L1 ts pos tk wq y L2 x2 u b 3 0 (.slice A3 its.length c3) (.slice A4 kys.length c4) its kys)∧(s 5=true→∃x:TValue,x.v.Ok∧SM w0 c q A n cap nmD rcD glD v0 v1 v3 L1 ts pos tk wq y L2 x2 u b 3 0 (.slice A3 its.length c3) (f 5) (.slice A4 kys.length c4) (its++[x]) kys)) [(0,some 127),(1,some 128),(2,some 129),(3,some 130),(4,some 131),(5,some 132),(6,some 133),(7,none)] rfl (by kernel_rfl) (by kernel_rfl) ?hJ rfl ?hstep ?hlast
           case hJ=>exact fun u=>⟨(fun h=>absurd h Bool.false_ne_true),(fun h=>absurd h Bool.false_ne_true),(fun h=>absurd h Bool.false_ne_true),(fun h=>absurd h Bool.false_ne_true),(fun h=>absurd h Bool.false_ne_true),(fun h=>absurd h Bool.false_ne_true),(fun _=>HT.out.on bl),(fun h=>absurd h Bool.false_ne_true)⟩
           case hstep =>
            simp only[putP,Act.put,List.setIfInBounds_toArray,List.set_cons_zero,List.set_cons_succ,List.getElem_toArray,List.getElem_cons_zero,List.getElem_cons_succ]
            refine (stepsJ_cons (i:=0) (i2:=1) (o:=_) rfl ?s0 (stepsJ_cons (i:=1) (i2:=2) (o:=_) rfl ?s1 (stepsJ_cons (i:=2) (i2:=3) (o:=_) rfl ?s2 (stepsJ_cons (i:=3) (i2:=4) (o:=_) rfl ?s3 (stepsJ_cons (i:=4) (i2:=5) (o:=_) rfl ?s4 (stepsJ_cons (i:=5) (i2:=6) (o:=_) rfl ?s5 (stepsJ_cons (i:=6) (i2:=7) (o:=_) rfl ?s6 (stepsJ_nil (by decide)))))))))
            case s0 =>
             intro uf wa s hs ha cl hJ K hK
             obtain⟨j_f0,j_ld,j_mc,j_call,j_bs,j_fa,j_S,j_M⟩:=hJ
             simp only[Act.put,List.setIfInBounds_toArray,List.set_cons_zero,List.set_cons_succ,List.getElem_toArray,List.getElem_cons_zero,List.getElem_cons_succ]at hK ⊢
             go_simp
             exact hK.out _ _ ⟨fun _=>rfl,j_ld,j_mc,j_call,j_bs,j_fa,j_S,j_M⟩
            case s1 =>
             intro uf wa s hs ha cl hJ K hK
             obtain⟨j_f0,j_ld,j_mc,j_call,j_bs,j_fa,j_S,j_M⟩:=hJ
             have e_f0:=j_f0 (ha 0 (by kernel_rfl))
             simp only[Act.put,List.setIfInBounds_toArray,List.set_cons_zero,List.set_cons_succ,List.getElem_toArray,List.getElem_cons_zero,List.getElem_cons_succ]at hK ⊢
             rw[e_f0]at hK ⊢
             have h_ap:s 5=false:=by cases hq:s 5 with | false=>rfl | true=>exact absurd (cl 5 hq 1 (by kernel_rfl)) (by rw[hs];exact Bool.false_ne_true)
             have T:=j_S h_ap
             obtain⟨lo,fo,o0,o1,o2,o3,o4⟩:=T.ob
             clear T
             go_simp
             exact hK.out _ _ ⟨j_f0,fun _=>rfl,j_mc,j_call,j_bs,j_fa,j_S,j_M⟩
            case s2 =>
             intro uf wa s hs ha cl hJ K hK
             obtain⟨j_f0,j_ld,j_mc,j_call,j_bs,j_fa,j_S,j_M⟩:=hJ
             simp only[Act.put,List.setIfInBounds_toArray,List.set_cons_zero,List.set_cons_succ,List.getElem_toArray,List.getElem_cons_zero,List.getElem_cons_succ]at hK ⊢
             go_simp
             exact hK.out _ _ ⟨j_f0,j_ld,fun _=>rfl,j_call,j_bs,j_fa,j_S,j_M⟩
            case s3 =>
             intro uf wa s hs ha cl hJ K hK
             obtain⟨j_f0,j_ld,j_mc,j_call,j_bs,j_fa,j_S,j_M⟩:=hJ
             have e_mc:=j_mc (ha 2 (by kernel_rfl))
             simp only[Act.put,List.setIfInBounds_toArray,List.set_cons_zero,List.set_cons_succ,List.getElem_toArray,List.getElem_cons_zero,List.getElem_cons_succ]at hK ⊢
             rw[e_mc]at hK ⊢
             have h_ap:s 5=false:=by cases hq:s 5 with | false=>rfl | true=>exact absurd (cl 4 (cl 5 hq 4 (by kernel_rfl)) 3 (by kernel_rfl)) (by rw[hs];exact Bool.false_ne_true)
             have T:=j_S h_ap
             go_simp
             go_at_call 29
             refine (l13Some_any (TStore.mk nmD rcD x2 glD ts pos [] [] [] false tk 400 u) (fun b=>w0.heap.size≤b) q c A n cap wa T.sq.cur T.sq.store hcS hqc (by show x2.length≤1048576;omega)).mono ?_
             rintro e w5 ⟨⟨k5,n5,i5,t5,l5,h5⟩,hv,he,hC,hO⟩
             replace he:e=.returned (.agg #[.int .i64 k5,.int .i64 n5,.int .i64 i5,.string t5,.int .i64 l5,.int .i64 h5]):=he
             subst he
             exact hK.out _ _ ⟨j_f0,j_ld,j_mc,fun _=>⟨.mk k5 n5 i5 t5 l5 h5,hv,rfl⟩,(fun h=>absurd (cl 4 h 3 (by kernel_rfl)) (by rw[hs];exact Bool.false_ne_true)),j_fa,(fun _=>T.oth hO hC),(fun h=>absurd (cl 4 (cl 5 h 4 (by kernel_rfl)) 3 (by kernel_rfl)) (by rw[hs];exact Bool.false_ne_true))⟩
            case s4 =>
             intro uf wa s hs ha cl hJ K hK
             obtain⟨j_f0,j_ld,j_mc,j_call,j_bs,j_fa,j_S,j_M⟩:=hJ
             simp only[Act.put,List.setIfInBounds_toArray,List.set_cons_zero,List.set_cons_succ,List.getElem_toArray,List.getElem_cons_zero,List.getElem_cons_succ]at hK ⊢
             obtain⟨x,hx,e_call⟩:=j_call (ha 3 (by kernel_rfl))
             obtain⟨x0,x1,x3,x4,x5,x6⟩:=x
             replace e_call:uf 3=.agg #[.int .i64 x0,.int .i64 x1,.int .i64 x3,.string x4,.int .i64 x5,.int .i64 x6]:=e_call
             rw[e_call]at hK ⊢
             have kb:Bel wa (wa.alloc (.cells #[.int .i64 x0,.int .i64 x1,.int .i64 x3,.string x4,.int .i64 x5,.int .i64 x6] 34)):=bl
             go_simp
             exact hK.out _ _ ⟨j_f0,j_ld,j_mc,j_call,(fun _ _=>⟨TValue.mk x0 x1 x3 x4 x5 x6,hx,wa.heap.size,rfl,OwnD.litV wa 34 [TValue.mk x0 x1 x3 x4 x5 x6] (fun z hz=>by rw[List.mem_singleton.1 hz];exact hx) (by show 1≤1000;omega) rfl⟩),j_fa,(fun h=>(j_S h).on kb),(fun h=>absurd (cl 5 h 4 (by kernel_rfl)) (by rw[hs];exact Bool.false_ne_true))⟩
            case s5 =>
             intro uf wa s hs ha cl hJ K hK
             obtain⟨j_f0,j_ld,j_mc,j_call,j_bs,j_fa,j_S,j_M⟩:=hJ
             have e_ld:=j_ld (ha 1 (by kernel_rfl))
             simp only[Act.put,List.setIfInBounds_toArray,List.set_cons_zero,List.set_cons_succ,List.getElem_toArray,List.getElem_cons_zero,List.getElem_cons_succ]at hK ⊢
             rw[e_ld]at hK ⊢
             obtain⟨x,hx,g,e_bs,hO4⟩:=j_bs (ha 4 (by kernel_rfl)) hs
             rw[e_bs]at hK ⊢ hO4
             have T:=j_S hs
             obtain⟨nw,hsr⟩:=hO4.src
             obtain⟨iv,hiv,zv0,zv1,zv2⟩:=info_parts infoVal
             refine wp_append_D (.tmp 128) (.tmp 131) 27 rfl 34 iv (.agg #[.int .i64 0,.int .i64 0,.int .i64 0,.string ByteArray.empty,.int .i64 0,.int .i64 0]) 6 56 Tryd.underlying27 hiv zv0 zv1 zv2 (by decide) (by decide) T.own3 hsr 1 rfl rfl (fun b _ h=>by cases h) (by simp only[List.length_map];omega) (by simp only[List.length_map];unfold maxLen;omega) (fun v9 w9 hO9 hg9 hw9=>?_)
             have hO10:OwnD w9 34 6 v9 [] ((its++[x]).map TValue.D):=by simpa using hO9
             (try simp only[Act.put,List.setIfInBounds_toArray,List.set_cons_zero,List.set_cons_succ,List.getElem_toArray,List.getElem_cons_zero,List.getElem_cons_succ])
             exact hK.out _ _ ⟨j_f0,j_ld,j_mc,j_call,(fun _ h=>absurd (show true=false from h) (by decide)),j_fa,(fun h=>absurd (show true=false from h) (by decide)),(fun _=>⟨x,hx,T.mid3 (Bel.refl wa) hg9 hO10 hw9⟩)⟩
            case s6 =>
             intro uf wa s hs ha cl hJ K hK
             obtain⟨j_f0,j_ld,j_mc,j_call,j_bs,j_fa,j_S,j_M⟩:=hJ
             simp only[Act.put,List.setIfInBounds_toArray,List.set_cons_zero,List.set_cons_succ,List.getElem_toArray,List.getElem_cons_zero,List.getElem_cons_succ]at hK ⊢
             go_simp
             exact hK.out _ _ ⟨j_f0,j_ld,j_mc,j_call,j_bs,fun _=>rfl,j_S,j_M⟩
           case hlast =>
            simp only[putP,Act.put,List.setIfInBounds_toArray,List.set_cons_zero,List.set_cons_succ,List.getElem_toArray,List.getElem_cons_zero,List.getElem_cons_succ]
            intro uf wa ⟨s,hall,hJ⟩ K hK
            obtain⟨j_f0,j_ld,j_mc,j_call,j_bs,j_fa,j_S,j_M⟩:=hJ
            have e_fa:=j_fa (hall 6 (by decide))
            obtain⟨x,hx,M⟩:=j_M (hall 5 (by decide))
            clear j_S j_M j_bs j_call j_ld j_f0 j_mc j_fa hall
            obtain⟨A9,c9,L9,e_ap,-⟩:=M.own3.ownRow
            simp only[List.length_map,List.length_append,List.length_cons,List.length_nil,Nat.zero_add]at e_ap
            rw[e_ap]at hK M ⊢
            rw[e_fa]at hK ⊢
            have T9:=hide M.put3
            obtain⟨lo,fo,o0,o1,o2,o3,o4⟩:=M.ob
            go_simp
            refine hK.out undef _ ?_
            clear hK e_ap e_fa M lo fo o0 o1 o2 o3 o4
            go_wp2_with (fail)
            all_goals go_roundw
            case rel=>exact⟨_,its++[x],by rw[List.length_append];show its.length+1≤41;omega,T9⟩
            case measure =>
             have hL9:=lenAt_of T9.out.ob.2.2.2.2.2.1
             rw[hL0,hL9]
             omega
          ·
           have hd:decide ((its.length:Int)≤(kys.length:Int))=false:=decide_eq_false (by omega)
           have hd2:decide (its.length≤kys.length)=false:=decide_eq_false hc
           exact rk189
        ·
         clear lo fo o0 o1 o2 o3 o4
         go_upto_region 29 with (fail)
         refine wp_region_lit ?_
         refine wpList_plain rfl fun K hK=>?_
         go_simp
         refine hK _ _ ?_
         clear hK K
         refine wpList_plain rfl fun K hK=>?_
         go_simp
         go_at_call 29
         refine (l13Some_any (TStore.mk nmD rcD x2 glD ts pos [] [] [] false tk 400 u) (fun b=>w0.heap.size≤b) q c A n cap _ HT.out.sq.cur HT.out.sq.store hcS hqc HLX_x2).mono ?_
         rintro e w30 ⟨⟨vk30,vn30,vi30,vt30,vl30,vh30⟩,hv,he,hC,hO⟩
         replace he:e=.returned (.agg #[.int .i64 vk30,.int .i64 vn30,.int .i64 vi30,.string vt30,.int .i64 vl30,.int .i64 vh30]):=he
         subst he
         have HV30:=hide hv
         have hs30:=hv.t
         unfold maxLen at hs30
         simp only at hs30
         have T30:=hide (HT.out.oth hO hC)
         clear hC hO hv
         refine hK _ _ ?_
         clear hK K
         refine wpList_plain rfl fun K hK=>?_
         go_simp
         refine hK _ _ ?_
         clear hK K
         refine wpList_plain rfl fun K hK=>?_
         go_simp
         go_at_call 29
         refine (l13Some_any (TStore.mk nmD rcD x2 glD ts pos [] [] [] false tk 400 u) (fun b=>w0.heap.size≤b) q c A n cap _ T30.out.sq.cur T30.out.sq.store hcS hqc HLX_x2).mono ?_
         rintro e w31 ⟨⟨vk31,vn31,vi31,vt31,vl31,vh31⟩,hv,he,hC,hO⟩
         replace he:e=.returned (.agg #[.int .i64 vk31,.int .i64 vn31,.int .i64 vi31,.string vt31,.int .i64 vl31,.int .i64 vh31]):=he
         subst he
         have HV31:=hide hv
         have hs31:=hv.t
         unfold maxLen at hs31
         simp only at hs31
         have T31:=hide (T30.out.oth hO hC)
         clear hC hO hv
         refine hK _ _ ?_
         clear hK K
         refine wpList_plain rfl fun K hK=>?_
         go_simp
         refine hK _ _ ?_
         clear hK K
         refine wpList_namedD fun w9 hw9=>?_
         have hb9:Bel w31 w9:=by rw[hw9];exact bl
         have D9:=hide (show OwnD w9 34 6 (.slice (some ⟨w31.heap.size,0,none⟩) 2 2) [] ([TValue.mk vk30 vn30 vi30 vt30 vl30 vh30,TValue.mk vk31 vn31 vi31 vt31 vl31 vh31].map TValue.D)from by
          rw[hw9]
          refine OwnD.litV w31 34 [TValue.mk vk30 vn30 vi30 vt30 vl30 vh30,TValue.mk vk31 vn31 vi31 vt31 vl31 vh31] (fun z hz=>?_) (by show 2≤1000;omega) rfl
          simp only[List.mem_cons,List.not_mem_nil,or_false]at hz
          rcases hz with rfl | rfl
          ·
           exact HV30.out
          ·
           exact HV31.out)
         have T9:=hide (T31.out.on hb9)
         clear hw9
         obtain⟨lo,fo,o0,o1,o2,o3,o4⟩:=T9.out.ob
         go_wp2_with (fail)
         all_goals go_meet
         all_goals exact⟨_,_,_,_,_,_,_,_,[TValue.mk vk30 vn30 vi30 vt30 vl30 vh30,TValue.mk vk31 vn31 vi31 vt31 vl31 vh31],kys,(by omega),by show 2≤100;omega,by omega,T31.out.grow3 hb9 (grown_refl _ _) D9.out (fun x hx=>Or.inr (Nat.le_of_eq (Option.some.inj (show some w31.heap.size=some x from hx))))⟩
        ·
         go_upto_region 32 with (go_at_call 50;refine (l1Below_any 3 c A n cap _ (HT.out.sq.cur) (by unfold InI;omega)).mono ?_;rintro e w30 ⟨y30,p30,q30,rfl,hC,hO⟩;have r30:y30≤2:=q30;clear q30;have T30:=hide (HT.out.oth hO hC);obtain⟨lo,fo,o0,o1,o2,o3,o4⟩:=T30.out.ob;have hbn:=Nat.ne_of_lt lo;clear hC hO)
         refine wp_named2 fun w31 hw31=>?_
         have T31:=hide (show SO w0 c q A n cap nmD rcD glD v0 v1 v3 L1 ts pos tk w31 y L2 x2 u b 6 (1+y30) (.slice A3 its.length c3) (.slice A4 kys.length c4) its kys from by rw[←hw31];exact T30.out.put1 (t2:=1+y30) (by unfold InI;omega))
         clear hw31 lo fo o0 o1 o2 o3 o4
         refine wp_region_lit ?_
         refine wpList_plain rfl fun K hK=>?_
         go_simp
         refine hK _ _ ?_
         clear hK K
         refine wpList_plain rfl fun K hK=>?_
         go_simp
         refine hK _ _ ?_
         clear hK K
         refine wpList_plain rfl fun K hK=>?_
         go_simp
         refine hK _ _ ?_
         clear hK K
         refine wpList_plain rfl fun K hK=>?_
         go_simp
         go_at_call 50
         refine (l1Below_any 3 c A n cap _ T31.out.sq.cur (by unfold InI;omega)).mono ?_
         rintro e w32 ⟨y32,p32,q32,rfl,hC,hO⟩
         have r32:y32≤2:=q32
         clear q32
         have T32:=hide (T31.out.oth hO hC)
         refine hK _ _ ?_
         clear hK K
         refine wpList_plain rfl fun K hK=>?_
         go_simp
         go_at_call 48
         refine (l11IntD_any _ _).mono ?_
         rintro e w33 ⟨rfl,hb33⟩
         have T33:=hide (T32.out.on hb33)
         refine hK _ _ ?_
         clear hK K
         refine wpList_plain rfl fun K hK=>?_
         go_simp
         refine hK _ _ ?_
         clear hK K
         refine wpList_namedD fun w9 hw9=>?_
         have hb9:Bel w33 w9:=by rw[hw9];exact bl
         have D9:=hide (show OwnD w9 34 6 (.slice (some ⟨w33.heap.size,0,none⟩) 3 3) [] ([TValue.mk 19 0 0 ByteArray.empty 0 0,TValue.mk 19 0 0 ByteArray.empty 0 0,TValue.mk 1 y32 0 ByteArray.empty 0 0].map TValue.D)from by
          rw[hw9]
          refine OwnD.litV w33 34 [TValue.mk 19 0 0 ByteArray.empty 0 0,TValue.mk 19 0 0 ByteArray.empty 0 0,TValue.mk 1 y32 0 ByteArray.empty 0 0] (fun z hz=>?_) (by show 3≤1000;omega) rfl
          simp only[List.mem_cons,List.not_mem_nil,or_false]at hz
          rcases hz with rfl | rfl | rfl
          ·
           exact ok_small 19 0 0 _ (by decide) (by decide) (by decide) (by decide)
          ·
           exact ok_small 19 0 0 _ (by decide) (by decide) (by decide) (by decide)
          ·
           exact ok_small 1 y32 0 _ (by decide) (by omega) (by decide) (by decide))
         have T9:=hide (T33.out.on hb9)
         clear hw9
         obtain⟨lo,fo,o0,o1,o2,o3,o4⟩:=T9.out.ob
         go_wp2_with (fail)
         all_goals go_meet
         all_goals exact⟨_,_,_,_,_,_,_,_,[TValue.mk 19 0 0 ByteArray.empty 0 0,TValue.mk 19 0 0 ByteArray.empty 0 0,TValue.mk 1 y32 0 ByteArray.empty 0 0],kys,(by omega),by show 3≤100;omega,by omega,T33.out.grow3 hb9 (grown_refl _ _) D9.out (fun x hx=>Or.inr (Nat.le_of_eq (Option.some.inj (show some w33.heap.size=some x from hx))))⟩
        ·
         go_upto_region 35 with (go_at_call 50;refine (l1Below_any 23 c A n cap _ (HT.out.sq.cur) (by unfold InI;omega)).mono ?_;rintro e w30 ⟨y30,p30,q30,rfl,hC,hO⟩;have r30:y30≤22:=q30;clear q30;have T30:=hide (HT.out.oth hO hC);obtain⟨lo,fo,o0,o1,o2,o3,o4⟩:=T30.out.ob;have hbn:=Nat.ne_of_lt lo;clear hC hO)
         refine wp_named2 fun w31 hw31=>?_
         have T31:=hide (show SO w0 c q A n cap nmD rcD glD v0 v1 v3 L1 ts pos tk w31 y L2 x2 u b 7 (1+y30) (.slice A3 its.length c3) (.slice A4 kys.length c4) its kys from by rw[←hw31];exact T30.out.put1 (t2:=1+y30) (by unfold InI;omega))
         clear hw31 lo fo o0 o1 o2 o3 o4
         obtain⟨lo,fo,o0,o1,o2,o3,o4⟩:=T31.out.ob;have hbn:=Nat.ne_of_lt lo
         obtain⟨t,ht⟩:∃x,1+y30=x:=⟨_,rfl⟩
         rw[ht]at T31 o1
         clear ht HT T30
         go_upto_region 37 with (go_at_call 54;refine (l13PatternItems_any t w31).mono ?_;rintro e w32 ⟨AL,ml,cl,hml,rfl,hgl,hb32⟩;have T32:=hide (T31.out.on hb32))
         clear lo fo o0 o1 o2 o3 o4
         have G32:∃gl:Nat,(ml≠0→AL=some ⟨gl,0,none⟩)∧RG q c nmD rcD glD v0 v1 v3 L1 w32 y L2 x2 b (.slice A3 its.length c3) (.slice A4 kys.length c4) its kys gl ml:=by
          have h1:=T31.out.sq.st.box.1
          have h2:=T31.out.sq.oth.size
          have h3:=T31.out.ob.1
          have h4:=T31.out.sq.ne
          have h5:=hb32.size
          by_cases hm0:ml=0
          ·
           refine⟨w.heap.size,fun h=>absurd hm0 h,⟨⟨by omega,fun j hj=>by omega⟩,fun f hf hb=>?_,by have h6:=T31.out.neb.1;omega⟩⟩
           have:=T31.out.sq.st.ents.low f hf w.heap.size hb
           omega
          ·
           obtain⟨gl,hg1,hgz,hgr⟩:=hgl hm0
           exact⟨gl,fun _=>hg1,⟨hgr,fun f hf hb=>(by have:=(T31.out.sq.st.ents.own f hf).lt gl hb;omega),by omega⟩⟩
         obtain⟨gl,hAL,hG⟩:=G32
         have G32:=hide hG
         clear hgl hG
         go_loopw [11] (fun jv wr=>∃(j2:Nat) (y:Value) (L2:List Nat) (x2:List TObject) (u:Int) (vi:Value) (its:List TValue),jv=.int .i64 j2∧j2≤ml∧x2.length≤X0+j2∧its.length≤40+j2∧Hid (SO w0 c q A n cap nmD rcD glD v0 v1 v3 L1 ts pos tk wr y L2 x2 u b 7 t vi (.slice A4 kys.length c4) its kys)∧Hid (RG q c nmD rcD glD v0 v1 v3 L1 wr y L2 x2 b vi (.slice A4 kys.length c4) its kys gl ml)) (fun jv _=>ml - (intOf jv).toNat)
         case atStart=>exact⟨0,_,_,_,_,_,_,rfl,Nat.zero_le _,by omega,by omega,T32,G32⟩
         case round =>
          clear T31 T32 G32 hil40 hxa hx2
          obtain⟨j2,y,L2,x2,u,vi,its,rfl,hj2,hxl2,hil2,HT,HG⟩:=hrel
          obtain⟨A3,c3,e3⟩:=HT.out.slI
          subst e3
          by_cases hjm:j2<ml
          ·
           have hd:decide ((j2:Int)<(ml:Int))=true:=decide_eq_true (by omega)
           have hd2:decide (j2<ml)=true:=decide_eq_true hjm
           have hji:(j2:Int)<(ml:Int):=by omega
           have hA:=hAL (by omega)
           subst hA
           obtain⟨B0,hB0,hB1⟩:∃B:Nat,x2.length≤B∧B≤X0+j2:=⟨_,Nat.le_refl _,hxl2⟩
           go_upto_region 39 with (fail)
           refine wp_region_inv 11 (fun s f wq=>(s 0=true→(f 0)=.pointer (some ⟨b,3,none⟩))∧(s 1=true→(f 1)=(.slice A3 its.length c3))∧(s 2=true→(f 2)=.pointer (some ⟨c,0,none⟩))∧(s 3=true→(f 3)=.slice (some ⟨gl,0,none⟩) ml cl)∧(s 4=true→(f 4)=.int .i64 j2)∧(s 5=true→(f 5)=.pointer (some ⟨gl,j2,none⟩))∧(s 6=true→∃kk:Int,(f 6)=.int .i64 kk)∧(s 7=true→∃x:TValue,x.v.Ok∧(f 7)=.agg (cellsV x).toArray)∧(s 8=true→s 9=false→∃x:TValue,x.v.Ok∧∃g:Nat,(f 8)=.slice (some ⟨g,0,none⟩) 1 1∧OwnD wq 34 6 (f 8) [] [x.D])∧(s 10=true→(f 10)=.pointer (some ⟨b,3,none⟩))∧(s 7=false→wq=wr.drew)∧(s 9=false→∃(y:Value) (L2:List Nat) (x2:List TObject) (u:Int),x2.length≤B0+1∧SO w0 c q A n cap nmD rcD glD v0 v1 v3 L1 ts pos tk wq y L2 x2 u b 7 t (.slice A3 its.length c3) (.slice A4 kys.length c4) its kys∧RG q c nmD rcD glD v0 v1 v3 L1 wq y L2 x2 b (.slice A3 its.length c3) (.slice A4 kys.length c4) its kys gl ml)∧(s 9=true→∃x:TValue,x.v.Ok∧∃(y:Value) (L2:List Nat) (x2:List TObject) (u:Int),x2.length≤B0+1∧SM w0 c q A n cap nmD rcD glD v0 v1 v3 L1 ts pos tk wq y L2 x2 u b 7 t (.slice A3 its.length c3) (f 9) (.slice A4 kys.length c4) (its++[x]) kys∧RG q c nmD rcD glD v0 v1 v3 L1 wq y L2 x2 b (f 9) (.slice A4 kys.length c4) (its++[x]) kys gl ml)) [(0,some 170),(1,some 171),(2,some 172),(3,some 173),(4,some 174),(5,some 175),(6,some 176),(7,some 177),(8,some 178),(9,some 179),(10,some 180),(11,none)] rfl (by kernel_rfl) (by kernel_rfl) ?hJ rfl ?hstep ?hlast
           case hJ=>exact fun u=>⟨(fun h=>absurd h Bool.false_ne_true),(fun h=>absurd h Bool.false_ne_true),(fun h=>absurd h Bool.false_ne_true),(fun h=>absurd h Bool.false_ne_true),(fun h=>absurd h Bool.false_ne_true),(fun h=>absurd h Bool.false_ne_true),(fun h=>absurd h Bool.false_ne_true),(fun h=>absurd h Bool.false_ne_true),(fun h=>absurd h Bool.false_ne_true),(fun h=>absurd h Bool.false_ne_true),(fun _=>rfl),(fun _=>⟨_,_,_,_,by omega,HT.out.on bl,HG.out.on bl⟩),(fun h=>absurd h Bool.false_ne_true)⟩
           case hstep =>
            simp only[putP,Act.put,List.setIfInBounds_toArray,List.set_cons_zero,List.set_cons_succ,List.getElem_toArray,List.getElem_cons_zero,List.getElem_cons_succ]
            refine (stepsJ_cons (i:=0) (i2:=1) (o:=_) rfl ?s0 (stepsJ_cons (i:=1) (i2:=2) (o:=_) rfl ?s1 (stepsJ_cons (i:=2) (i2:=3) (o:=_) rfl ?s2 (stepsJ_cons (i:=3) (i2:=4) (o:=_) rfl ?s3 (stepsJ_cons (i:=4) (i2:=5) (o:=_) rfl ?s4 (stepsJ_cons (i:=5) (i2:=6) (o:=_) rfl ?s5 (stepsJ_cons (i:=6) (i2:=7) (o:=_) rfl ?s6 (stepsJ_cons (i:=7) (i2:=8) (o:=_) rfl ?s7 (stepsJ_cons (i:=8) (i2:=9) (o:=_) rfl ?s8 (stepsJ_cons (i:=9) (i2:=10) (o:=_) rfl ?s9 (stepsJ_cons (i:=10) (i2:=11) (o:=_) rfl ?s10 (stepsJ_nil (by decide)))))))))))))
            case s0 =>
             intro uf wa s hs ha cl hJ K hK
             obtain⟨j_f0,j_ld,j_mc,j_ml,j_mj,j_ia,j_lk,j_call,j_bs,j_fa,j_W,j_S,j_M⟩:=hJ
             simp only[Act.put,List.setIfInBounds_toArray,List.set_cons_zero,List.set_cons_succ,List.getElem_toArray,List.getElem_cons_zero,List.getElem_cons_succ]at hK ⊢
             go_simp
             exact hK.out _ _ ⟨fun _=>rfl,j_ld,j_mc,j_ml,j_mj,j_ia,j_lk,j_call,j_bs,j_fa,j_W,j_S,j_M⟩
            case s1 =>
             intro uf wa s hs ha cl hJ K hK
             obtain⟨j_f0,j_ld,j_mc,j_ml,j_mj,j_ia,j_lk,j_call,j_bs,j_fa,j_W,j_S,j_M⟩:=hJ
             have e_f0:=j_f0 (ha 0 (by kernel_rfl))
             simp only[Act.put,List.setIfInBounds_toArray,List.set_cons_zero,List.set_cons_succ,List.getElem_toArray,List.getElem_cons_zero,List.getElem_cons_succ]at hK ⊢
             rw[e_f0]at hK ⊢
             have h_ap:s 9=false:=by cases hq:s 9 with | false=>rfl | true=>exact absurd (cl 9 hq 1 (by kernel_rfl)) (by rw[hs];exact Bool.false_ne_true)
             obtain⟨yy,LL,xx,uu,hxl,T,G⟩:=j_S h_ap
             obtain⟨lo,fo,o0,o1,o2,o3,o4⟩:=T.ob
             clear T
             go_simp
             exact hK.out _ _ ⟨j_f0,fun _=>rfl,j_mc,j_ml,j_mj,j_ia,j_lk,j_call,j_bs,j_fa,j_W,j_S,j_M⟩
            case s2 =>
             intro uf wa s hs ha cl hJ K hK
             obtain⟨j_f0,j_ld,j_mc,j_ml,j_mj,j_ia,j_lk,j_call,j_bs,j_fa,j_W,j_S,j_M⟩:=hJ
             simp only[Act.put,List.setIfInBounds_toArray,List.set_cons_zero,List.set_cons_succ,List.getElem_toArray,List.getElem_cons_zero,List.getElem_cons_succ]at hK ⊢
             go_simp
             exact hK.out _ _ ⟨j_f0,j_ld,fun _=>rfl,j_ml,j_mj,j_ia,j_lk,j_call,j_bs,j_fa,j_W,j_S,j_M⟩
            case s3 =>
             intro uf wa s hs ha cl hJ K hK
             obtain⟨j_f0,j_ld,j_mc,j_ml,j_mj,j_ia,j_lk,j_call,j_bs,j_fa,j_W,j_S,j_M⟩:=hJ
             simp only[Act.put,List.setIfInBounds_toArray,List.set_cons_zero,List.set_cons_succ,List.getElem_toArray,List.getElem_cons_zero,List.getElem_cons_succ]at hK ⊢
             go_simp
             exact hK.out _ _ ⟨j_f0,j_ld,j_mc,fun _=>rfl,j_mj,j_ia,j_lk,j_call,j_bs,j_fa,j_W,j_S,j_M⟩
            case s4 =>
             intro uf wa s hs ha cl hJ K hK
             obtain⟨j_f0,j_ld,j_mc,j_ml,j_mj,j_ia,j_lk,j_call,j_bs,j_fa,j_W,j_S,j_M⟩:=hJ
             simp only[Act.put,List.setIfInBounds_toArray,List.set_cons_zero,List.set_cons_succ,List.getElem_toArray,List.getElem_cons_zero,List.getElem_cons_succ]at hK ⊢
             go_simp
             exact hK.out _ _ ⟨j_f0,j_ld,j_mc,j_ml,fun _=>rfl,j_ia,j_lk,j_call,j_bs,j_fa,j_W,j_S,j_M⟩
            case s5 =>
             intro uf wa s hs ha cl hJ K hK
             obtain⟨j_f0,j_ld,j_mc,j_ml,j_mj,j_ia,j_lk,j_call,j_bs,j_fa,j_W,j_S,j_M⟩:=hJ
             have e_ml:=j_ml (ha 3 (by kernel_rfl))
             have e_mj:=j_mj (ha 4 (by kernel_rfl))
             simp only[Act.put,List.setIfInBounds_toArray,List.set_cons_zero,List.set_cons_succ,List.getElem_toArray,List.getElem_cons_zero,List.getElem_cons_succ]at hK ⊢
             rw[e_ml]at hK ⊢
             rw[e_mj]at hK ⊢
             go_simp
             exact hK.out _ _ ⟨j_f0,j_ld,j_mc,j_ml,j_mj,fun _=>rfl,j_lk,j_call,j_bs,j_fa,j_W,j_S,j_M⟩
            case s6 =>
             intro uf wa s hs ha cl hJ K hK
             obtain⟨j_f0,j_ld,j_mc,j_ml,j_mj,j_ia,j_lk,j_call,j_bs,j_fa,j_W,j_S,j_M⟩:=hJ
             have e_ia:=j_ia (ha 5 (by kernel_rfl))
             simp only[Act.put,List.setIfInBounds_toArray,List.set_cons_zero,List.set_cons_succ,List.getElem_toArray,List.getElem_cons_zero,List.getElem_cons_succ]at hK ⊢
             rw[e_ia]at hK ⊢
             have h_call:s 7=false:=by cases hq:s 7 with | false=>rfl | true=>exact absurd (cl 7 hq 6 (by kernel_rfl)) (by rw[hs];exact Bool.false_ne_true)
             have eW:=j_W h_call
             obtain⟨kk,hkk,hcell⟩:=(HG.out.row.block (w':=wa) (by rw[eW];exact Nat.le_refl _) (by rw[eW];rfl)).2 j2 hjm
             have JW:=hide j_W
             clear eW j_W h_call
             go_simp
             exact hK.out _ _ ⟨j_f0,j_ld,j_mc,j_ml,j_mj,j_ia,fun _=>⟨kk,rfl⟩,j_call,j_bs,j_fa,JW.out,j_S,j_M⟩
            case s7 =>
             intro uf wa s hs ha cl hJ K hK
             obtain⟨j_f0,j_ld,j_mc,j_ml,j_mj,j_ia,j_lk,j_call,j_bs,j_fa,j_W,j_S,j_M⟩:=hJ
             have e_mc:=j_mc (ha 2 (by kernel_rfl))
             simp only[Act.put,List.setIfInBounds_toArray,List.set_cons_zero,List.set_cons_succ,List.getElem_toArray,List.getElem_cons_zero,List.getElem_cons_succ]at hK ⊢
             rw[e_mc]at hK ⊢
             obtain⟨kk,e_lk⟩:=j_lk (ha 6 (by kernel_rfl))
             rw[e_lk]at hK ⊢
             have h_ap:s 9=false:=by cases hq:s 9 with | false=>rfl | true=>exact absurd (cl 8 (cl 9 hq 8 (by kernel_rfl)) 7 (by kernel_rfl)) (by rw[hs];exact Bool.false_ne_true)
             have h_bs:s 8=false:=by cases hq:s 8 with | false=>rfl | true=>exact absurd (cl 8 hq 7 (by kernel_rfl)) (by rw[hs];exact Bool.false_ne_true)
             have eW:=j_W hs
             subst eW
             go_simp
             go_at_call 55
             refine (l13PatternItem_any (HT.out.sq.on (w':=wr.drew) bl) kk (by omega)).mono ?_
             rintro e w5 ⟨⟨k5,n5,i5,t5,l5,h5⟩,y5,L5,x5,u5,hv,he,hs5,hl5,hf5,hx5⟩
             replace he:e=.returned (.agg #[.int .i64 k5,.int .i64 n5,.int .i64 i5,.string t5,.int .i64 l5,.int .i64 h5]):=he
             subst he
             have hbd:=HT.out.ob.1
             have T5:SO w0 c q A n cap nmD rcD glD v0 v1 v3 L1 ts pos tk w5 y5 L5 x5 u5 b 7 t (.slice A3 its.length c3) (.slice A4 kys.length c4) its kys:=SO.other (HT.out.on (w':=wr.drew) bl) hs5 (hf5.2 b hbd (HT.out.neb.2) hbc (fun e=>HT.out.low (EO y L2 x2) (by simp) (Or.inl e))) hf5.1 hx5
             exact hK.out _ _ ⟨j_f0,j_ld,j_mc,j_ml,j_mj,j_ia,j_lk,fun _=>⟨.mk k5 n5 i5 t5 l5 h5,hv,rfl⟩,(fun h=>absurd (cl 8 h 7 (by kernel_rfl)) (by rw[hs];exact Bool.false_ne_true)),j_fa,(fun h=>absurd (show true=false from h) (by decide)),(fun _=>⟨y5,L5,x5,u5,by omega,T5,RG.other (HG.out.on (w':=wr.drew) bl) hf5 hx5⟩),(fun h=>absurd (cl 8 (cl 9 h 8 (by kernel_rfl)) 7 (by kernel_rfl)) (by rw[hs];exact Bool.false_ne_true))⟩
            case s8 =>
             intro uf wa s hs ha cl hJ K hK
             obtain⟨j_f0,j_ld,j_mc,j_ml,j_mj,j_ia,j_lk,j_call,j_bs,j_fa,j_W,j_S,j_M⟩:=hJ
             simp only[Act.put,List.setIfInBounds_toArray,List.set_cons_zero,List.set_cons_succ,List.getElem_toArray,List.getElem_cons_zero,List.getElem_cons_succ]at hK ⊢
             obtain⟨x,hx,e_call⟩:=j_call (ha 7 (by kernel_rfl))
             obtain⟨x0,x1,x3,x4,x5,x6⟩:=x
             replace e_call:uf 7=.agg #[.int .i64 x0,.int .i64 x1,.int .i64 x3,.string x4,.int .i64 x5,.int .i64 x6]:=e_call
             rw[e_call]at hK ⊢
             have kb:Bel wa (wa.alloc (.cells #[.int .i64 x0,.int .i64 x1,.int .i64 x3,.string x4,.int .i64 x5,.int .i64 x6] 34)):=bl
             go_simp
             exact hK.out _ _ ⟨j_f0,j_ld,j_mc,j_ml,j_mj,j_ia,j_lk,j_call,(fun _ _=>⟨TValue.mk x0 x1 x3 x4 x5 x6,hx,wa.heap.size,rfl,OwnD.litV wa 34 [TValue.mk x0 x1 x3 x4 x5 x6] (fun z hz=>by rw[List.mem_singleton.1 hz];exact hx) (by show 1≤1000;omega) rfl⟩),j_fa,(fun h=>absurd ((ha 7 (by kernel_rfl)).symm.trans h) (by decide)),(fun h=>by obtain⟨yy,LL,xx,uu,hxl,T,G⟩:=j_S h;exact⟨yy,LL,xx,uu,hxl,T.on kb,G.on kb⟩),(fun h=>absurd (cl 9 h 8 (by kernel_rfl)) (by rw[hs];exact Bool.false_ne_true))⟩
            case s9 =>
             intro uf wa s hs ha cl hJ K hK
             obtain⟨j_f0,j_ld,j_mc,j_ml,j_mj,j_ia,j_lk,j_call,j_bs,j_fa,j_W,j_S,j_M⟩:=hJ
             have e_ld:=j_ld (ha 1 (by kernel_rfl))
             simp only[Act.put,List.setIfInBounds_toArray,List.set_cons_zero,List.set_cons_succ,List.getElem_toArray,List.getElem_cons_zero,List.getElem_cons_succ]at hK ⊢
             rw[e_ld]at hK ⊢
             obtain⟨x,hx,g,e_bs,hO4⟩:=j_bs (ha 8 (by kernel_rfl)) hs
             rw[e_bs]at hK ⊢ hO4
             obtain⟨yy,LL,xx,uu,hxl,T,G⟩:=j_S hs
             obtain⟨nw,hsr⟩:=hO4.src
             obtain⟨iv,hiv,zv0,zv1,zv2⟩:=info_parts infoVal
             refine wp_append_D (.tmp 171) (.tmp 178) 27 rfl 34 iv (.agg #[.int .i64 0,.int .i64 0,.int .i64 0,.string ByteArray.empty,.int .i64 0,.int .i64 0]) 6 56 Tryd.underlying27 hiv zv0 zv1 zv2 (by decide) (by decide) T.own3 hsr 1 rfl rfl (fun b _ h=>by cases h) (by simp only[List.length_map];omega) (by simp only[List.length_map];unfold maxLen;omega) (fun v9 w9 hO9 hg9 hw9=>?_)
             have hO10:OwnD w9 34 6 v9 [] ((its++[x]).map TValue.D):=by simpa using hO9
             (try simp only[Act.put,List.setIfInBounds_toArray,List.set_cons_zero,List.set_cons_succ,List.getElem_toArray,List.getElem_cons_zero,List.getElem_cons_succ])
             exact hK.out _ _ ⟨j_f0,j_ld,j_mc,j_ml,j_mj,j_ia,j_lk,j_call,(fun _ h=>absurd (show true=false from h) (by decide)),j_fa,(fun h=>absurd ((ha 7 (by kernel_rfl)).symm.trans h) (by decide)),(fun h=>absurd (show true=false from h) (by decide)),(fun _=>⟨x,hx,yy,LL,xx,uu,hxl,T.mid3 (Bel.refl wa) hg9 hO10 hw9,RG.grow G (Bel.refl wa) hg9 hw9⟩)⟩
            case s10 =>
             intro uf wa s hs ha cl hJ K hK
             obtain⟨j_f0,j_ld,j_mc,j_ml,j_mj,j_ia,j_lk,j_call,j_bs,j_fa,j_W,j_S,j_M⟩:=hJ
             simp only[Act.put,List.setIfInBounds_toArray,List.set_cons_zero,List.set_cons_succ,List.getElem_toArray,List.getElem_cons_zero,List.getElem_cons_succ]at hK ⊢
             go_simp
             exact hK.out _ _ ⟨j_f0,j_ld,j_mc,j_ml,j_mj,j_ia,j_lk,j_call,j_bs,fun _=>rfl,j_W,j_S,j_M⟩
           case hlast =>
            simp only[putP,Act.put,List.setIfInBounds_toArray,List.set_cons_zero,List.set_cons_succ,List.getElem_toArray,List.getElem_cons_zero,List.getElem_cons_succ]
            intro uf wa ⟨s,hall,hJ⟩ K hK
            obtain⟨j_f0,j_ld,j_mc,j_ml,j_mj,j_ia,j_lk,j_call,j_bs,j_fa,j_W,j_S,j_M⟩:=hJ
            have e_fa:=j_fa (hall 10 (by decide))
            obtain⟨x,hx,yy,LL,xx,uu,hxl,M,G⟩:=j_M (hall 9 (by decide))
            clear j_S j_M j_bs j_call j_ld j_f0 j_mc j_fa j_ml j_mj j_ia j_lk j_W hall
            obtain⟨A9,c9,L9,e_ap,-⟩:=M.own3.ownRow
            simp only[List.length_map,List.length_append,List.length_cons,List.length_nil,Nat.zero_add]at e_ap
            rw[e_ap]at hK M G ⊢
            rw[e_fa]at hK ⊢
            have T9:=hide M.put3
            have G9:=hide (G.set 3 (.slice A9 (its.length+1) c9))
            obtain⟨lo,fo,o0,o1,o2,o3,o4⟩:=M.ob
            go_simp
            refine hK.out undef _ ?_
            clear hK e_ap e_fa M lo fo o0 o1 o2 o3 o4
            go_wp2_with (fail)
            all_goals go_roundw
            case rel=>exact⟨j2+1,_,_,_,_,_,its++[x],by go_num,by omega,by omega,by rw[List.length_append];show its.length+1≤40+(j2+1);omega,T9,G9⟩
            case measure=>simp[intOf];omega
          ·
           have hd:decide ((j2:Int)<(ml:Int))=false:=decide_eq_false (by omega)
           have hd2:decide (j2<ml)=false:=decide_eq_false hjm
           exact rk189
        ·
         go_upto_region 42 with (first
          | (go_at_call 48;refine (l11IntD_any _ _).mono ?_;rintro e w30 ⟨rfl,hb30⟩;have T30:=hide (HT.out.on hb30))
          | (go_at_call 35;refine (new_lit T30.out.sq (w1:=w30) (Bel.refl w30) 3 0 [TValue.mk 1 0 0 ByteArray.empty 0 0] (fun z hz=>by rw[List.mem_singleton.1 hz];exact ok_small 1 0 0 _ (by decide) (by decide) (by decide) (by decide)) (by decide) (cs:=#[.int .i64 1,.int .i64 0,.int .i64 0,.string ByteArray.empty,.int .i64 0,.int .i64 0]) rfl (by unfold InI;omega) in0 (by omega)).mono ?_;rintro e w31 ⟨y9,L9,x9,u9,rfl,hs9,hn9,hz9,hf9,hx9⟩;have T31:=hide (SO.other T30.out hs9 (hf9 b T30.out.ob.1 T30.out.neb.2 (fun e=>T30.out.low (EO y L2 x2) (by simp) (Or.inl e))) hz9 hx9);have hl9:x9.length≤X0+1:=(by omega);clear hs9 hn9 hz9 hf9 hx9))
         clear lo fo o0 o1 o2 o3 o4
         have HLX_x9:(TStore.mk nmD rcD x9 glD ts pos [] [] [] false tk 400 u9).objects.length≤1048576:=by show x9.length≤1048576;omega
         refine wp_region_lit ?_
         refine wpList_plain rfl fun K hK=>?_
         go_simp
         refine hK _ _ ?_
         clear hK K
         refine wpList_plain rfl fun K hK=>?_
         go_simp
         refine hK _ _ ?_
         clear hK K
         refine wpList_plain rfl fun K hK=>?_
         go_simp
         refine hK _ _ ?_
         clear hK K
         refine wpList_plain rfl fun K hK=>?_
         go_simp
         go_at_call 29
         refine (l13Some_any (TStore.mk nmD rcD x9 glD ts pos [] [] [] false tk 400 u9) (fun b=>w0.heap.size≤b) q c A n cap _ T31.out.sq.cur T31.out.sq.store hcS hqc HLX_x9).mono ?_
         rintro e w32 ⟨⟨vk32,vn32,vi32,vt32,vl32,vh32⟩,hv,he,hC,hO⟩
         replace he:e=.returned (.agg #[.int .i64 vk32,.int .i64 vn32,.int .i64 vi32,.string vt32,.int .i64 vl32,.int .i64 vh32]):=he
         subst he
         have HV32:=hide hv
         have hs32:=hv.t
         unfold maxLen at hs32
         simp only at hs32
         have T32:=hide (T31.out.oth hO hC)
         clear hC hO hv
         refine hK _ _ ?_
         clear hK K
         refine wpList_plain rfl fun K hK=>?_
         go_simp
         refine hK _ _ ?_
         clear hK K
         refine wpList_namedD fun w9 hw9=>?_
         have hb9:Bel w32 w9:=by rw[hw9];exact bl
         have D9:=hide (show OwnD w9 34 6 (.slice (some ⟨w32.heap.size,0,none⟩) 2 2) [] ([TValue.mk 5 x2.length 0 ByteArray.empty 0 0,TValue.mk vk32 vn32 vi32 vt32 vl32 vh32].map TValue.D)from by
          rw[hw9]
          refine OwnD.litV w32 34 [TValue.mk 5 x2.length 0 ByteArray.empty 0 0,TValue.mk vk32 vn32 vi32 vt32 vl32 vh32] (fun z hz=>?_) (by show 2≤1000;omega) rfl
          simp only[List.mem_cons,List.not_mem_nil,or_false]at hz
          rcases hz with rfl | rfl
          ·
           exact⟨inI_small (by show -100≤(5:Int);omega) (by show (5:Int)≤100;omega),by show InI (x2.length:Int);unfold InI;omega,in0,by show ByteArray.empty.size≤maxLen;decide,in0,in0⟩
          ·
           exact HV32.out)
         have T9:=hide (T32.out.on hb9)
         clear hw9
         obtain⟨lo,fo,o0,o1,o2,o3,o4⟩:=T9.out.ob
         go_wp2_with (fail)
         all_goals go_meet
         all_goals exact⟨_,_,_,_,_,_,_,_,[TValue.mk 5 x2.length 0 ByteArray.empty 0 0,TValue.mk vk32 vn32 vi32 vt32 vl32 vh32],kys,(by omega),by show 2≤100;omega,by omega,T32.out.grow3 hb9 (grown_refl _ _) D9.out (fun x hx=>Or.inr (Nat.le_of_eq (Option.some.inj (show some w32.heap.size=some x from hx))))⟩
        ·
         clear lo fo o0 o1 o2 o3 o4
         go_upto_region 44 with (fail)
         refine wp_region_lit ?_
         refine wpList_plain rfl fun K hK=>?_
         go_simp
         go_at_call 51
         refine (l11TextD_any _ _).mono ?_
         rintro e w30 ⟨rfl,hb30⟩
         have T30:=hide (HT.out.on hb30)
         refine hK _ _ ?_
         clear hK K
         refine wpList_plain rfl fun K hK=>?_
         go_simp
         go_at_call 48
         refine (l11IntD_any _ _).mono ?_
         rintro e w31 ⟨rfl,hb31⟩
         have T31:=hide (T30.out.on hb31)
         refine hK _ _ ?_
         clear hK K
         refine wpList_plain rfl fun K hK=>?_
         go_simp
         refine hK _ _ ?_
         clear hK K
         refine wpList_namedD fun w9 hw9=>?_
         have hb9:Bel w31 w9:=by rw[hw9];exact bl
         have D9:=hide (show OwnD w9 34 6 (.slice (some ⟨w31.heap.size,0,none⟩) 2 2) [] ([TValue.mk 2 0 0 ⟨#[120,121]⟩ 0 0,TValue.mk 1 2 0 ByteArray.empty 0 0].map TValue.D)from by
          rw[hw9]
          refine OwnD.litV w31 34 [TValue.mk 2 0 0 ⟨#[120,121]⟩ 0 0,TValue.mk 1 2 0 ByteArray.empty 0 0] (fun z hz=>?_) (by show 2≤1000;omega) rfl
          simp only[List.mem_cons,List.not_mem_nil,or_false]at hz
          rcases hz with rfl | rfl
          ·
           exact ok_small 2 0 0 _ (by decide) (by decide) (by decide) (by decide)
          ·
           exact ok_small 1 2 0 _ (by decide) (by decide) (by decide) (by decide))
         have T9:=hide (T31.out.on hb9)
         clear hw9
         obtain⟨lo,fo,o0,o1,o2,o3,o4⟩:=T9.out.ob
         go_wp2_with (fail)
         all_goals go_meet
         all_goals exact⟨_,_,_,_,_,_,_,_,[TValue.mk 2 0 0 ⟨#[120,121]⟩ 0 0,TValue.mk 1 2 0 ByteArray.empty 0 0],kys,(by omega),by show 2≤100;omega,by omega,T31.out.grow3 hb9 (grown_refl _ _) D9.out (fun x hx=>Or.inr (Nat.le_of_eq (Option.some.inj (show some w31.heap.size=some x from hx))))⟩
        ·
         have e3:(k==3)=false:=beq_eq_false_iff_ne.2 k3
         have e5:(k==5)=false:=beq_eq_false_iff_ne.2 k5
         have e6:(k==6)=false:=beq_eq_false_iff_ne.2 k6
         have e7:(k==7)=false:=beq_eq_false_iff_ne.2 k7
         have e8:(k==8)=false:=beq_eq_false_iff_ne.2 k8
         have e9:(k==9)=false:=beq_eq_false_iff_ne.2 k9
         exact rk189
       case rest =>
        clear HT lo fo o0 o1 o2 o3 o4 hil40 hkl40 hxa
        obtain⟨y,L2,x2,u,k,t,vi,vk,its,kys,hx2c,hi100,hk100,hT⟩:=hcut
        have T30:=hide hT
        clear hT
        obtain⟨A3,c3,e3⟩:=T30.out.slI
        obtain⟨A4,c4,e4⟩:=T30.out.slK
        subst e3 e4
        obtain⟨lo,fo,o0,o1,o2,o3,o4⟩:=T30.out.ob
        obtain⟨M,hd,hn,hM⟩:=T30.out.take
        have HD:=hide hd
        have HM:=hide hM
        clear hd hM
        go_wp2_with (go_at_call 35;refine (new_SQ T30.out.sq.drop k t (.slice A3 its.length c3) (.slice A4 kys.length c4) its kys M HD.out hn HM.out (by omega) ⟨hi100,hk100⟩).mono ?_;rintro e w40 ⟨y9,ob9,u9,rfl,hq9,-,-⟩;have T40:=hide hq9;clear hq9)
        all_goals go_roundw
        case rel=>exact⟨i+1,_,_,x2++[ob9],_,by go_num,by omega,by simp,by rw[List.length_append];show x2.length+1≤1+3*(i+1);omega,T40⟩
        case measure=>simp[intOf];omega
  ·
   have hdc:decide ((i:Int)<(N1:Int))=false:=by simp;omega
   have hdn:decide (i<N1)=false:=by simp;omega
   go_upto_if 202 with (go_at_call 27;refine (l1Once_any 2 c A n cap _ HS.out.cur (by unfold InI;omega)).mono ?_;rintro e w40 ⟨z,rfl,hC,hO⟩;have T40:=hide (HS.out.oth' hO hC);clear hC hO)
   clear HS
   go_cut []from 203 to 207 (fun wx=>∃(v8:Value) (x8:List TActive),x8.length≤1∧FQ w0 c q A n cap nmD rcD glD v0 v1 v3 L1 ts pos tk wx y L2 x2 u v8 x8)
   case first =>
    cases z
    ·
     go_wp2_with (fail)
     all_goals go_meet
     all_goals exact⟨_,[],by decide,FQ.of T40.out⟩
    ·
     skip
     go_upto_region 47 with (fail)
     refine wp_region_lit ?_
     refine wpList_plain rfl fun K hK=>?_
     go_simp
     refine hK _ _ ?_
     clear hK K
     refine wpList_plain rfl fun K hK=>?_
     go_simp
     go_at_call 50
     refine (l1Below_any 2 c A n cap _ T40.out.cur (by unfold InI;omega)).mono ?_
     rintro e w41 ⟨y41,p41,q41,rfl,hC,hO⟩
     have T41:=hide (T40.out.oth' hO hC)
     have r41:y41≤1:=q41
     clear hC hO q41
     refine hK _ _ ?_
     clear hK K
     refine wpList_plain rfl fun K hK=>?_
     go_simp
     refine hK _ _ ?_
     clear hK K
     refine wpList_plain rfl fun K hK=>?_
     go_simp
     refine hK _ _ ?_
     clear hK K
     refine wpList_namedD fun w9 hw9=>?_
     have hb9:Bel w41 w9:=by rw[hw9];exact bl
     have T9:=hide (T41.out.on hb9)
     have HW9:=hide hw9
     clear hw9
     obtain⟨hlb,hfb,kb_0,kb_1,kb_2,kb_3,kb_4,kb_5,kb_6,kb_7,kb_8,kb_9,kb_10,kb_11,kb_12⟩:=T9.out.st.box
     go_wp2_with (fail)
     all_goals go_meet
     all_goals exact⟨_,[.mk y41 0],by show 1≤1;omega,by rw[HW9.out];exact FQ.act T41.out (by unfold InI;omega)⟩
   case rest =>
    clear T40
    obtain⟨v8,x8,hx8,hT⟩:=hcut
    have T41:=hide hT
    clear hT
    go_upto_if 209 with (go_at_call 27;refine (l1Once_any 10 c A n cap _ T41.out.cur (by unfold InI;omega)).mono ?_;rintro e w42 ⟨z,rfl,hC,hO⟩;have T42:=hide (T41.out.oth' hO hC);clear hC hO)
    clear T41
    have HSM:=hide T42.out.sml
    have hx25:x2.length≤25:=by omega
    have HU:=hide (show 0≤u∧u≤25 from⟨T42.out.ok.2.2.1.1,by have h:=T42.out.ok.2.2.1.2.1;omega⟩)
    go_cut []from 210 to 220 (fun wx=>∃x2:List TObject,0<x2.length∧x2.length≤25∧(∀o,o∈x2→o.its.length≤100∧o.kys.length≤100)∧FH w0 c q A n cap wx (TStore.mk nmD rcD x2 glD ts pos [] [] x8 false tk 400 u))
    case first =>
     cases z
     ·
      go_wp2_with (fail)
      all_goals go_meet
      all_goals exact⟨x2,hx0,hx25,HSM.out,T42.out.fin⟩
     ·
      skip
      obtain⟨A2,c2,-,e2,-,-⟩:=T42.out.own2.ownRow
      rw[List.length_map]at e2
      subst e2
      obtain⟨g,o,hA2,-⟩:=T42.out.tag rfl 0 hx0 in0
      subst hA2
      go_upto_region 49 with (fail)
      refine wp_region_inv 11 (fun s f wq=>(s 0=true→(f 0)=.pointer (some ⟨q,2,none⟩))∧(s 1=true→(f 1)=.slice (some ⟨g,o,none⟩) x2.length c2)∧(s 2=true→(f 2)=.pointer (some ⟨c,0,none⟩))∧(s 3=true→(f 3)=.pointer (some ⟨q,2,none⟩))∧(s 4=true→(f 4)=.slice (some ⟨g,o,none⟩) x2.length c2)∧(s 5=true→(f 5)=.int .i64 x2.length)∧(s 6=true→∃j:Nat,j<x2.length∧(f 6)=.int .i64 j)∧(s 7=true→(f 7)=.pointer (some ⟨c,0,none⟩))∧(s 8=true→∃tg:Int,InI tg∧(f 8)=.int .i64 tg)∧(s 9=true→∃j:Nat,j<x2.length∧(f 9)=.pointer (some ⟨g,o+j*5,none⟩))∧(s 10=true→∃j:Nat,j<x2.length∧(f 10)=.pointer (some ⟨g,o+j*5+1,none⟩))∧(FQ w0 c q A n cap nmD rcD glD v0 v1 v3 L1 ts pos tk wq (.slice (some ⟨g,o,none⟩) x2.length c2) L2 x2 u v8 x8)) [(0,some 210),(1,some 211),(2,some 212),(3,some 213),(4,some 214),(5,some 215),(6,some 216),(7,some 217),(8,some 218),(9,some 219),(10,some 220),(11,none)] rfl (by kernel_rfl) (by kernel_rfl) ?hJ rfl ?hstep ?hlast
      case hJ=>exact fun u=>⟨(fun h=>absurd h Bool.false_ne_true),(fun h=>absurd h Bool.false_ne_true),(fun h=>absurd h Bool.false_ne_true),(fun h=>absurd h Bool.false_ne_true),(fun h=>absurd h Bool.false_ne_true),(fun h=>absurd h Bool.false_ne_true),(fun h=>absurd h Bool.false_ne_true),(fun h=>absurd h Bool.false_ne_true),(fun h=>absurd h Bool.false_ne_true),(fun h=>absurd h Bool.false_ne_true),(fun h=>absurd h Bool.false_ne_true),T42.out.oth' (Oth.of_bel bl) (T42.out.cur.bel bl)⟩
      case hstep =>
       simp only[putP,Act.put,List.setIfInBounds_toArray,List.set_cons_zero,List.set_cons_succ,List.getElem_toArray,List.getElem_cons_zero,List.getElem_cons_succ]
       refine (stepsJ_cons (i:=0) (i2:=1) (o:=_) rfl ?s0 (stepsJ_cons (i:=1) (i2:=2) (o:=_) rfl ?s1 (stepsJ_cons (i:=2) (i2:=3) (o:=_) rfl ?s2 (stepsJ_cons (i:=3) (i2:=4) (o:=_) rfl ?s3 (stepsJ_cons (i:=4) (i2:=5) (o:=_) rfl ?s4 (stepsJ_cons (i:=5) (i2:=6) (o:=_) rfl ?s5 (stepsJ_cons (i:=6) (i2:=7) (o:=_) rfl ?s6 (stepsJ_cons (i:=7) (i2:=8) (o:=_) rfl ?s7 (stepsJ_cons (i:=8) (i2:=9) (o:=_) rfl ?s8 (stepsJ_cons (i:=9) (i2:=10) (o:=_) rfl ?s9 (stepsJ_cons (i:=10) (i2:=11) (o:=_) rfl ?s10 (stepsJ_nil (by decide)))))))))))))
       case s0 =>
        intro uf wa s hs ha cl hJ K hK
        obtain⟨j_f0,j_ld,j_mc,j_f1,j_le,j_ln,j_b1,j_md,j_b2,j_ia,j_fa,j_S⟩:=hJ
        simp only[Act.put,List.setIfInBounds_toArray,List.set_cons_zero,List.set_cons_succ,List.getElem_toArray,List.getElem_cons_zero,List.getElem_cons_succ]at hK ⊢
        go_simp
        exact hK.out _ _ ⟨fun _=>rfl,j_ld,j_mc,j_f1,j_le,j_ln,j_b1,j_md,j_b2,j_ia,j_fa,j_S⟩
       case s1 =>
        intro uf wa s hs ha cl hJ K hK
        obtain⟨j_f0,j_ld,j_mc,j_f1,j_le,j_ln,j_b1,j_md,j_b2,j_ia,j_fa,j_S⟩:=hJ
        have e_f0:=j_f0 (ha 0 (by kernel_rfl))
        simp only[Act.put,List.setIfInBounds_toArray,List.set_cons_zero,List.set_cons_succ,List.getElem_toArray,List.getElem_cons_zero,List.getElem_cons_succ]at hK ⊢
        rw[e_f0]at hK ⊢
        obtain⟨hlb,hfb,kb_0,kb_1,kb_2,kb_3,kb_4,kb_5,kb_6,kb_7,kb_8,kb_9,kb_10,kb_11,kb_12⟩:=j_S.st.box
        go_simp
        exact hK.out _ _ ⟨j_f0,fun _=>rfl,j_mc,j_f1,j_le,j_ln,j_b1,j_md,j_b2,j_ia,j_fa,j_S⟩
       case s2 =>
        intro uf wa s hs ha cl hJ K hK
        obtain⟨j_f0,j_ld,j_mc,j_f1,j_le,j_ln,j_b1,j_md,j_b2,j_ia,j_fa,j_S⟩:=hJ
        simp only[Act.put,List.setIfInBounds_toArray,List.set_cons_zero,List.set_cons_succ,List.getElem_toArray,List.getElem_cons_zero,List.getElem_cons_succ]at hK ⊢
        go_simp
        exact hK.out _ _ ⟨j_f0,j_ld,fun _=>rfl,j_f1,j_le,j_ln,j_b1,j_md,j_b2,j_ia,j_fa,j_S⟩
       case s3 =>
        intro uf wa s hs ha cl hJ K hK
        obtain⟨j_f0,j_ld,j_mc,j_f1,j_le,j_ln,j_b1,j_md,j_b2,j_ia,j_fa,j_S⟩:=hJ
        simp only[Act.put,List.setIfInBounds_toArray,List.set_cons_zero,List.set_cons_succ,List.getElem_toArray,List.getElem_cons_zero,List.getElem_cons_succ]at hK ⊢
        go_simp
        exact hK.out _ _ ⟨j_f0,j_ld,j_mc,fun _=>rfl,j_le,j_ln,j_b1,j_md,j_b2,j_ia,j_fa,j_S⟩
       case s4 =>
        intro uf wa s hs ha cl hJ K hK
        obtain⟨j_f0,j_ld,j_mc,j_f1,j_le,j_ln,j_b1,j_md,j_b2,j_ia,j_fa,j_S⟩:=hJ
        have e_f1:=j_f1 (ha 3 (by kernel_rfl))
        simp only[Act.put,List.setIfInBounds_toArray,List.set_cons_zero,List.set_cons_succ,List.getElem_toArray,List.getElem_cons_zero,List.getElem_cons_succ]at hK ⊢
        rw[e_f1]at hK ⊢
        obtain⟨hlb,hfb,kb_0,kb_1,kb_2,kb_3,kb_4,kb_5,kb_6,kb_7,kb_8,kb_9,kb_10,kb_11,kb_12⟩:=j_S.st.box
        go_simp
        exact hK.out _ _ ⟨j_f0,j_ld,j_mc,j_f1,fun _=>rfl,j_ln,j_b1,j_md,j_b2,j_ia,j_fa,j_S⟩
       case s5 =>
        intro uf wa s hs ha cl hJ K hK
        obtain⟨j_f0,j_ld,j_mc,j_f1,j_le,j_ln,j_b1,j_md,j_b2,j_ia,j_fa,j_S⟩:=hJ
        have e_le:=j_le (ha 4 (by kernel_rfl))
        simp only[Act.put,List.setIfInBounds_toArray,List.set_cons_zero,List.set_cons_succ,List.getElem_toArray,List.getElem_cons_zero,List.getElem_cons_succ]at hK ⊢
        rw[e_le]at hK ⊢
        go_simp
        exact hK.out _ _ ⟨j_f0,j_ld,j_mc,j_f1,j_le,fun _=>rfl,j_b1,j_md,j_b2,j_ia,j_fa,j_S⟩
       case s6 =>
        intro uf wa s hs ha cl hJ K hK
        obtain⟨j_f0,j_ld,j_mc,j_f1,j_le,j_ln,j_b1,j_md,j_b2,j_ia,j_fa,j_S⟩:=hJ
        have e_mc:=j_mc (ha 2 (by kernel_rfl))
        have e_ln:=j_ln (ha 5 (by kernel_rfl))
        simp only[Act.put,List.setIfInBounds_toArray,List.set_cons_zero,List.set_cons_succ,List.getElem_toArray,List.getElem_cons_zero,List.getElem_cons_succ]at hK ⊢
        rw[e_mc]at hK ⊢
        rw[e_ln]at hK ⊢
        go_simp
        go_at_call 50
        refine (l1Below_any x2.length c A n cap wa j_S.cur (by unfold InI;omega)).mono ?_
        rintro e w5 ⟨y5,p5,q5,rfl,hC,hO⟩
        obtain⟨j5,rfl⟩:=Int.eq_ofNat_of_zero_le p5
        have h5:=below_lt q5
        exact hK.out _ _ ⟨j_f0,j_ld,j_mc,j_f1,j_le,j_ln,fun _=>⟨j5,by omega,rfl⟩,j_md,j_b2,j_ia,j_fa,j_S.oth' hO hC⟩
       case s7 =>
        intro uf wa s hs ha cl hJ K hK
        obtain⟨j_f0,j_ld,j_mc,j_f1,j_le,j_ln,j_b1,j_md,j_b2,j_ia,j_fa,j_S⟩:=hJ
        simp only[Act.put,List.setIfInBounds_toArray,List.set_cons_zero,List.set_cons_succ,List.getElem_toArray,List.getElem_cons_zero,List.getElem_cons_succ]at hK ⊢
        go_simp
        exact hK.out _ _ ⟨j_f0,j_ld,j_mc,j_f1,j_le,j_ln,j_b1,fun _=>rfl,j_b2,j_ia,j_fa,j_S⟩
       case s8 =>
        intro uf wa s hs ha cl hJ K hK
        obtain⟨j_f0,j_ld,j_mc,j_f1,j_le,j_ln,j_b1,j_md,j_b2,j_ia,j_fa,j_S⟩:=hJ
        have e_md:=j_md (ha 7 (by kernel_rfl))
        simp only[Act.put,List.setIfInBounds_toArray,List.set_cons_zero,List.set_cons_succ,List.getElem_toArray,List.getElem_cons_zero,List.getElem_cons_succ]at hK ⊢
        rw[e_md]at hK ⊢
        go_simp
        go_at_call 50
        refine (l1Below_any 4 c A n cap wa j_S.cur (by unfold InI;omega)).mono ?_
        rintro e w5 ⟨y5,p5,q5,rfl,hC,hO⟩
        have h5:=below_lt q5
        exact hK.out _ _ ⟨j_f0,j_ld,j_mc,j_f1,j_le,j_ln,j_b1,j_md,fun _=>⟨y5,by unfold InI;omega,rfl⟩,j_ia,j_fa,j_S.oth' hO hC⟩
       case s9 =>
        intro uf wa s hs ha cl hJ K hK
        obtain⟨j_f0,j_ld,j_mc,j_f1,j_le,j_ln,j_b1,j_md,j_b2,j_ia,j_fa,j_S⟩:=hJ
        have e_ld:=j_ld (ha 1 (by kernel_rfl))
        obtain⟨j,hj,e_b1⟩:=j_b1 (ha 6 (by kernel_rfl))
        simp only[Act.put,List.setIfInBounds_toArray,List.set_cons_zero,List.set_cons_succ,List.getElem_toArray,List.getElem_cons_zero,List.getElem_cons_succ]at hK ⊢
        rw[e_ld]at hK ⊢
        rw[e_b1]at hK ⊢
        have hji:(j:Int)<(x2.length:Int):=by omega
        go_simp
        exact hK.out _ _ ⟨j_f0,j_ld,j_mc,j_f1,j_le,j_ln,j_b1,j_md,j_b2,fun _=>⟨j,hj,rfl⟩,j_fa,j_S⟩
       case s10 =>
        intro uf wa s hs ha cl hJ K hK
        obtain⟨j_f0,j_ld,j_mc,j_f1,j_le,j_ln,j_b1,j_md,j_b2,j_ia,j_fa,j_S⟩:=hJ
        obtain⟨j,hj,e_ia⟩:=j_ia (ha 9 (by kernel_rfl))
        simp only[Act.put,List.setIfInBounds_toArray,List.set_cons_zero,List.set_cons_succ,List.getElem_toArray,List.getElem_cons_zero,List.getElem_cons_succ]at hK ⊢
        rw[e_ia]at hK ⊢
        go_simp
        exact hK.out _ _ ⟨j_f0,j_ld,j_mc,j_f1,j_le,j_ln,j_b1,j_md,j_b2,j_ia,fun _=>⟨j,hj,rfl⟩,j_S⟩
      case hlast =>
       simp only[putP,Act.put,List.setIfInBounds_toArray,List.set_cons_zero,List.set_cons_succ,List.getElem_toArray,List.getElem_cons_zero,List.getElem_cons_succ]
       intro uf wa ⟨s,hall,hJ⟩ K hK
       obtain⟨j_f0,j_ld,j_mc,j_f1,j_le,j_ln,j_b1,j_md,j_b2,j_ia,j_fa,j_S⟩:=hJ
       obtain⟨j,hj,e_fa⟩:=j_fa (hall 10 (by decide))
       obtain⟨tg,htg,e_b2⟩:=j_b2 (hall 8 (by decide))
       clear j_f0 j_ld j_mc j_f1 j_le j_ln j_b1 j_md j_b2 j_ia j_fa hall
       rw[e_fa,e_b2]at hK ⊢
       obtain⟨g',o',ego,hgl,hgf,⟨u0,hgc⟩,hFH⟩:=j_S.tag rfl j hj htg
       obtain⟨rfl,rfl⟩:g=g'∧o=o':=by simpa using ego
       have T43:=hide hFH
       clear hFH ego
       have hgf1:=hgf (o+j*5+1)
       go_simp
       refine hK.out undef _ ?_
       clear hK
       go_wp2_with (fail)
       all_goals go_meet
       all_goals exact⟨_,by rw[List.length_set];omega,by rw[List.length_set];omega,fun ob hob=>(List.mem_or_eq_of_mem_set hob).elim (HSM.out ob) (fun e=>by subst e;exact tag_small (HSM.out _ (List.getElem_mem hj))),T43.out⟩
    case rest =>
     clear T42 HSM hx0 hx25 hx2 hdc hdn
     obtain⟨x2,hx0,hx25,hsm,hT⟩:=hcut
     have HSM:=hide hsm
     have T43:=hide hT
     clear hT hsm
     go_upto_if 222 with (go_at_call 27;refine (l1Once_any 20 c A n cap _ T43.out.cur (by unfold InI;omega)).mono ?_;rintro e w44 ⟨z,rfl,hC,hO⟩;have T44:=hide (T43.out.oth' hO hC);clear hC hO)
     clear T43
     go_cut []from 223 to 226 (fun wx=>∃x2:List TObject,x2.length≤25∧(∀o,o∈x2→o.its.length≤100∧o.kys.length≤100)∧FH w0 c q A n cap wx (TStore.mk nmD rcD x2 glD ts pos [] [] x8 false tk 400 u))
     case first =>
      cases z
      ·
       go_wp2_with (fail)
       all_goals go_meet
       all_goals exact⟨x2,hx25,HSM.out,T44.out⟩
      ·
       skip
       obtain⟨A0,c0,A1,c1,A2,c2,A3,c3,A6,c6,A7,c7,A8,c8,hqs,kb_0,kb_1,kb_2,kb_3,kb_4,kb_5,kb_6,kb_7,kb_8,kb_9,kb_10,kb_11,kb_12,r0,r1,r2,r3,i4,i5,r6,r7,r8,i10,i11,i12⟩:=StoreAt.cells T44.out.st
       have hfr:=T44.out.fr 2
       by_cases hc1:c2=1
       ·
        subst hc1
        go_wp2_with (fail)
        all_goals go_meet
        all_goals exact⟨x2.tail,by rw[List.length_tail];omega,fun ob hob=>HSM.out ob (List.mem_of_mem_tail hob),T44.out.cut HC0.out kb_2 (fun _ h=>⟨by omega,by unfold maxLen;omega⟩) (fun h h2=>absurd (by omega) h2)⟩
       ·
        go_wp2_with (fail)
        all_goals go_meet
        all_goals exact⟨x2.tail,by rw[List.length_tail];omega,fun ob hob=>HSM.out ob (List.mem_of_mem_tail hob),T44.out.cut HC0.out kb_2 (fun h1 h=>⟨by omega,by omega⟩) (fun _ _ g o e=>by rw[e];rfl)⟩
     case rest =>
      clear T44 HSM hx0 hx25
      obtain⟨x2,hx25,hsm,hT⟩:=hcut
      have HSM:=hide hsm
      clear hsm
      have T45:=hide hT
      clear hT
      obtain⟨A0,c0,A1,c1,A2,c2,A3,c3,A6,c6,A7,c7,A8,c8,hqs,kb_0,kb_1,kb_2,kb_3,kb_4,kb_5,kb_6,kb_7,kb_8,kb_9,kb_10,kb_11,kb_12,r0,r1,r2,r3,i4,i5,r6,r7,r8,i10,i11,i12⟩:=StoreAt.cells T45.out.st
      have HRS:=hide (HRB.out.block T45.out.oth.size (T45.out.oth.block w.heap.size HRB.out.1 hne))
      have HOUT:=hide (FH.out HC.out hb0 HZ0.out T45.out [.slice A0 nmD.length c0,.slice A1 rcD.length c1,.slice A2 x2.length c2,.slice A3 glD.length c3,.string ts,.int .i64 pos,.slice A6 ([]:List ByteArray).length c6,.slice A7 ([]:List ByteArray).length c7,.slice A8 x8.length c8,.bool false,.int .i64 tk,.int .i64 400,.int .i64 u] (TStore.vals_mk (x9:=false) r0 r1 r2 r3 i4 i5 r6 r7 r8 i10 i11 i12))
      clear r0 r1 r2 r3 i4 i5 r6 r7 r8 i10 i11 i12
      go_upto_region 52 with (fail)
      refine wp_region_lit ?_
      refine wpList_plain rfl fun K hK=>?_
      go_simp
      refine hK _ _ ?_
      clear hK K
      refine wpList_store_mid rfl 30 (.tmp 2) (.tmp 227) rfl w.heap.size 0 #[.slice A0 nmD.length c0,.slice A1 rcD.length c1,.slice A2 x2.length c2,.slice A3 glD.length c3,.string ts,.int .i64 pos,.slice A6 ([]:List ByteArray).length c6,.slice A7 ([]:List ByteArray).length c7,.slice A8 x8.length c8,.bool false,.int .i64 tk,.int .i64 400,.int .i64 u] rfl rfl HRS.out.there (by kernel_rfl) (by simp[Value.oneCell']) ?_
      refine wpList_namedD fun wz hwz=>?_
      have SZ:SB wz w.heap.size (.slice A0 nmD.length c0) (.slice A1 rcD.length c1) (.slice A2 x2.length c2) (.slice A3 glD.length c3) (.string ts) (.int .i64 pos) (.slice A6 ([]:List ByteArray).length c6) (.slice A7 ([]:List ByteArray).length c7) (.slice A8 x8.length c8) (.bool false) (.int .i64 tk) (.int .i64 400) (.int .i64 u):=by rw[hwz];exact HRS.out.fill (.slice A0 nmD.length c0) (.slice A1 rcD.length c1) (.slice A2 x2.length c2) (.slice A3 glD.length c3) (.string ts) (.int .i64 pos) (.slice A6 ([]:List ByteArray).length c6) (.slice A7 ([]:List ByteArray).length c7) (.slice A8 x8.length c8) (.bool false) (.int .i64 tk) (.int .i64 400) (.int .i64 u)
      have HZ:Dat.HoldVals wz (fun b=>w.heap.size≤b) (TStore.mk nmD rcD x2 glD ts pos [] [] x8 false tk 400 u).D [.slice A0 nmD.length c0,.slice A1 rcD.length c1,.slice A2 x2.length c2,.slice A3 glD.length c3,.string ts,.int .i64 pos,.slice A6 ([]:List ByteArray).length c6,.slice A7 ([]:List ByteArray).length c7,.slice A8 x8.length c8,.bool false,.int .i64 tk,.int .i64 400,.int .i64 u]∧Cur wz c A n cap∧Oth c w wz:=by rw[hwz];exact HOUT.out
      have HZZ:=hide HZ
      clear HZ hwz HOUT
      obtain⟨-,-,d0,d1,d2,d3,d4,d5,d6,d7,d8,d9,d10,d11,d12⟩:=SZ
      refine wpList_nil ?_
      go_simp
      rename_i hKr
      refine hKr _ _ ?_
      clear hKr
      refine wp_ret ?_
      exact bodyPost_ret (v:=.agg #[.slice A0 nmD.length c0,.slice A1 rcD.length c1,.slice A2 x2.length c2,.slice A3 glD.length c3,.string ts,.int .i64 pos,.slice A6 ([]:List ByteArray).length c6,.slice A7 ([]:List ByteArray).length c7,.slice A8 x8.length c8,.bool false,.int .i64 tk,.int .i64 400,.int .i64 u]) (by simp[results,Tryd.results26,d0,d1,d2,d3,d4,d5,d6,d7,d8,d9,d10,d11,d12,go_sem];try rfl) rfl ⟨_,[.slice A0 nmD.length c0,.slice A1 rcD.length c1,.slice A2 x2.length c2,.slice A3 glD.length c3,.string ts,.int .i64 pos,.slice A6 ([]:List ByteArray).length c6,.slice A7 ([]:List ByteArray).length c7,.slice A8 x8.length c8,.bool false,.int .i64 tk,.int .i64 400,.int .i64 u],rfl,HZZ.out.1,hx25,HSM.out,⟨HU.out.1,HU.out.2,store_ln hx25 HSM.out hx8⟩,HZZ.out.2.1,HZZ.out.2.2⟩
end Go.Proofs.YtoikhhnmbbbjjaaDoor
