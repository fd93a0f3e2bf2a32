/- IsValidStore: the reference. -/
import Derived.Test.YtoikhhnmbbbjjaaDoorPr
import Derived.Test.YtoikhhnmbbbjjaaDoorPS7h
import Derived.Test.YtoikhhnmbbbjjaaDoorPShelf
namespace Go.Proofs.YtoikhhnmbbbjjaaDoor
set_option linter.unusedVariables false
set_option linter.unusedSimpArgs false
set_option maxRecDepth 100000
open Go.RowKit
--%quiet
set_option maxHeartbeats 8000000 in
theorem specValid_any (s:TStore):ValC 18 s:=by
 intro S w vs hv
 obtain⟨x0,x1,x2,x3,x4,x5,x6,x7,x8,x9,x10,x11,x12⟩:=s
 have HV:=hide hv
 obtain⟨A0,c0,A1,c1,A2,c2,A3,c3,A6,c6,A7,c7,A8,c8,rfl,g0,g1,g2,g3,g4,g5,g6,g7,g8,-,g10,g11,g12⟩:=TStore.vals hv
 have HR0:=hide g0
 have hlc0:=g0.1
 have hcm0:=g0.2.1
 simp only[List.length_map]at hlc0
 unfold maxLen at hcm0
 have HR1:=hide g1
 have hlc1:=g1.1
 have hcm1:=g1.2.1
 simp only[List.length_map]at hlc1
 unfold maxLen at hcm1
 have HR2:=hide g2
 have hlc2:=g2.1
 have hcm2:=g2.2.1
 simp only[List.length_map]at hlc2
 unfold maxLen at hcm2
 have HR3:=hide g3
 have hlc3:=g3.1
 have hcm3:=g3.2.1
 simp only[List.length_map]at hlc3
 unfold maxLen at hcm3
 have HR6:=hide g6
 have hlc6:=g6.1
 have hcm6:=g6.2.1
 simp only[List.length_map]at hlc6
 unfold maxLen at hcm6
 have HR7:=hide g7
 have hlc7:=g7.1
 have hcm7:=g7.2.1
 simp only[List.length_map]at hlc7
 unfold maxLen at hcm7
 have HR8:=hide g8
 have hlc8:=g8.1
 have hcm8:=g8.2.1
 simp only[List.length_map]at hlc8
 unfold maxLen at hcm8
 unfold maxLen at g4
 clear hv g0 g1 g2 g3 g6 g7 g8
 have HS1:=hide (show StoreAt (w.alloc (.cells #[.slice A0 x0.length c0,.slice A1 x1.length c1,.slice A2 x2.length c2,.slice A3 x3.length c3,.string x4,.int .i64 x5,.slice A6 x6.length c6,.slice A7 x7.length c7,.slice A8 x8.length c8,.bool x9,.int .i64 x10,.int .i64 x11,.int .i64 x12] 30)) S w.heap.size (TStore.mk x0 x1 x2 x3 x4 x5 x6 x7 x8 x9 x10 x11 x12)from StoreAt.mk_of HV.out rfl)
 by_cases hc0:x0.length≤12
 case neg =>
  have RR:=hide (val_head (s:=(TStore.mk x0 x1 x2 x3 x4 x5 x6 x7 x8 x9 x10 x11 x12)) (by rw[head_mk];rw[decide_eq_false hc0];simp))
  have d0:decide ((12:Int)<(x0.length:Int))=true:=by simp;omega
  exact rk21
 case pos =>
 have d0:decide ((12:Int)<(x0.length:Int))=false:=by simp;omega
 by_cases hc1:x1.length≤8
 case neg =>
  have RR:=hide (val_head (s:=(TStore.mk x0 x1 x2 x3 x4 x5 x6 x7 x8 x9 x10 x11 x12)) (by rw[head_mk];rw[decide_eq_false hc1];simp))
  have d1:decide ((8:Int)<(x1.length:Int))=true:=by simp;omega
  exact rk21
 case pos =>
 have d1:decide ((8:Int)<(x1.length:Int))=false:=by simp;omega
 by_cases hc2:x3.length≤12
 case neg =>
  have RR:=hide (val_head (s:=(TStore.mk x0 x1 x2 x3 x4 x5 x6 x7 x8 x9 x10 x11 x12)) (by rw[head_mk];rw[decide_eq_false hc2];simp))
  have d2:decide ((12:Int)<(x3.length:Int))=true:=by simp;omega
  exact rk21
 case pos =>
 have d2:decide ((12:Int)<(x3.length:Int))=false:=by simp;omega
 by_cases hc3:x4.size≤120
 case neg =>
  have RR:=hide (val_head (s:=(TStore.mk x0 x1 x2 x3 x4 x5 x6 x7 x8 x9 x10 x11 x12)) (by rw[head_mk];rw[decide_eq_false hc3];simp))
  have d3:decide ((120:Int)<(x4.size:Int))=true:=by simp;omega
  exact rk21
 case pos =>
 have d3:decide ((120:Int)<(x4.size:Int))=false:=by simp;omega
 by_cases hc4:1≤x5∧x5≤(x4.size:Int)+1
 case neg =>
  have RR:=hide (val_head (s:=(TStore.mk x0 x1 x2 x3 x4 x5 x6 x7 x8 x9 x10 x11 x12)) (by rw[head_mk];rw[decide_eq_false hc4];simp))
  have d4:(decide (1≤x5)&&decide (x5≤(x4.size:Int)+1))=false:=by simp;omega
  exact rk21
 case pos =>
 have d4:decide (1≤x5)=true:=by simp;omega
 have d4b:decide (x5≤(x4.size:Int)+1)=true:=by simp;omega
 by_cases hc5:x8.length≤40
 case neg =>
  have RR:=hide (val_head (s:=(TStore.mk x0 x1 x2 x3 x4 x5 x6 x7 x8 x9 x10 x11 x12)) (by rw[head_mk];rw[decide_eq_false hc5];simp))
  have d5:decide ((40:Int)<(x8.length:Int))=true:=by simp;omega
  exact rk21
 case pos =>
 have d5:decide ((40:Int)<(x8.length:Int))=false:=by simp;omega
 by_cases hc6:0≤x12
 case neg =>
  have RR:=hide (val_head (s:=(TStore.mk x0 x1 x2 x3 x4 x5 x6 x7 x8 x9 x10 x11 x12)) (by rw[head_mk];rw[decide_eq_false hc6];simp))
  have d6:decide (x12<0)=true:=by simp;omega
  exact rk21
 case pos =>
 have d6:decide (x12<0)=false:=by simp;omega
 by_cases hc7:0≤x11∧x11≤4000
 case neg =>
  have RR:=hide (val_head (s:=(TStore.mk x0 x1 x2 x3 x4 x5 x6 x7 x8 x9 x10 x11 x12)) (by rw[head_mk];rw[decide_eq_false hc7];simp))
  have d7:(decide (0≤x11)&&decide (x11≤4000))=false:=by simp;omega
  exact rk21
 case pos =>
 have d7:decide (0≤x11)=true:=by simp;omega
 have d7b:decide (x11≤4000)=true:=by simp;omega
 by_cases hc8:0≤x10∧x10≤x11
 case neg =>
  have RR:=hide (val_head (s:=(TStore.mk x0 x1 x2 x3 x4 x5 x6 x7 x8 x9 x10 x11 x12)) (by rw[head_mk];rw[decide_eq_false hc8];simp))
  have d8:(decide (0≤x10)&&decide (x10≤x11))=false:=by simp;omega
  exact rk21
 case pos =>
 have d8:decide (0≤x10)=true:=by simp;omega
 have d8b:decide (x10≤x11)=true:=by simp;omega
 have hnl:decide ((x0.length:Int)≤12)=true:=by simp;omega
 by_cases hnm:x0.all nameB=true
 case neg =>
  have hnm2:=Bool.eq_false_iff.2 hnm
  have RR:=hide (val_head (s:=(TStore.mk x0 x1 x2 x3 x4 x5 x6 x7 x8 x9 x10 x11 x12)) (by rw[head_mk,hnm2];simp))
  have HN:=hide (show (x0.all nameB&&decide ((x0.length:Int)≤12))=false by rw[hnm2];rfl)
  clear hnm hnm2 hnl
  go_enter Tryd.func18,Tryd.ntmps18
  have mkq:=True.intro
  repeat (any_goals ((first | clear mkq | go_quiet (fail));(try go_wp2_with (first | (go_at_call 36;refine (l1InS_any _ _ _ _).mono ?_;rintro e w9 ⟨rfl,rfl⟩) | (go_at_call 37;refine (namesOk_row x0 12 S _ _ _ (Row.bel bl HR0.out)).mono ?_;rintro e w8 ⟨rfl,hb8⟩;rw[HN.out];(have hz8:=hb8.sz;obtain⟨hk8_0,hf8_0,hl8_0,hn8_0⟩:=hb8.lay (w.heap.size)))))))
  all_goals
   go_returns
   exact⟨by rw[RR.out];first | done | rfl,bl⟩
 case pos =>
 have HN:=hide (show (x0.all nameB&&decide ((x0.length:Int)≤12))=true by rw[hnm,hnl];rfl)
 have HH:=hide (show headB (TStore.mk x0 x1 x2 x3 x4 x5 x6 x7 x8 x9 x10 x11 x12)=true by rw[head_mk,hnm];simp;omega)
 clear hnm hnl
 go_enter Tryd.func18,Tryd.ntmps18
 have mkq:=True.intro
 repeat (any_goals ((first | clear mkq | go_quiet (fail));(try go_wp2_with (first | (go_at_call 36;refine (l1InS_any _ _ _ _).mono ?_;rintro e w9 ⟨rfl,rfl⟩) | (go_at_call 37;refine (namesOk_row x0 12 S _ _ _ (Row.bel bl HR0.out)).mono ?_;rintro e w8 ⟨rfl,hb8⟩;rw[HN.out];(have hz8:=hb8.sz;obtain⟨hk8_0,hf8_0,hl8_0,hn8_0⟩:=hb8.lay (w.heap.size)))))))
 go_loopw [3] (fun v wr=>∃m:Nat,v=.int .i64 m∧m≤x1.length∧Hid (∀j (hj:j<x1.length),j<m→recB x1[j]=true)∧Bel w wr∧Hid (StoreAt wr S w.heap.size (TStore.mk x0 x1 x2 x3 x4 x5 x6 x7 x8 x9 x10 x11 x12))) (fun v _=>x1.length - (intOf v).toNat)
 case atStart=>exact⟨0,rfl,by omega,fun j _ hj=>by omega,bl,hide (StoreAt.bel bl HS1.out)⟩
 case round =>
  obtain⟨m,rfl,m1,hm,hbw,hsw⟩:=hrel
  have hqz:=hsw.out.1
  obtain⟨A0,c0,A1,c1,A2,c2,A3,c3,A6,c6,A7,c7,A8,c8,hqx,e0,e1,e2,e3,e4,e5,e6,e7,e8,e9,e10,e11,e12,y0,y1,y2,y3,y4,y5,y6,y7,y8,y10,y11,y12⟩:=StoreAt.cells hsw.out
  have HR1:=hide y1
  have hlc1:=y1.1
  have hcm1:=y1.2.1
  simp only[List.length_map]at hlc1
  unfold maxLen at hcm1
  clear hqx y0 y1 y2 y3 y4 y5 y6 y7 y8 y10 y11 y12
  have hbr:Bel wr wr:=Bel.refl _
  have hqn:¬w.heap.size=wr.heap.size:=by omega
  by_cases h1:m<x1.length
  ·
   have hd:decide ((m:Int)<(x1.length:Int))=true:=by simp[h1]
   (obtain⟨b1,o1,x1_0,x1_1,x1_2,A1_1,C1_1,hA1,hS1,hl1,hx1,hv1,g1_0,g1_1,g1_2,c1_0,c1_1,c1_2⟩:=TRecordType.at HR1.out m h1;subst hA1;have HV1:=hide (Dat.HoldVals.bel hbr hv1);have hh1:=hbr.box b1 hl1;have hw1:=Nat.lt_of_lt_of_le hl1 (Bel.size hbr);replace c1_0:=(hh1 _).trans c1_0;replace c1_1:=(hh1 _).trans c1_1;replace c1_2:=(hh1 _).trans c1_2;have HX1:=hide hx1;have GR1_1:=hide g1_1;clear hh1 hv1 hx1 hS1 g1_1)
   have hne1:¬b1=wr.heap.size:=by omega
   have HRC:=hide (show recB x1[m]=(nameB x1_0&&x1_1.all nameB&&decide (x1_1.length≤6) && !twiceB x1_1&&decide (0≤x1_2)) by rw[HX1.out];rfl)
   have hf:=GR1_1.out.1
   have hfm:=GR1_1.out.2.1
   simp only[List.length_map]at hf
   unfold maxLen at hfm g1_0
   cases hn:nameB x1_0
   case false =>
    have HR0:=hide (show recB x1[m]=false by rw[HRC.out];simp[hn])
    have Hhn:=hide hn
    clear hn
    exact rk73
   case true =>
   have Hhn:=hide hn
   clear hn
   by_cases hlen:x1_1.length≤6
   case neg =>
    have HR0:=hide (show recB x1[m]=false by rw[HRC.out];simp[hlen])
    have dhlen:decide ((6:Int)<(x1_1.length:Int))=true:=by simp;omega
    have dl:decide ((x1_1.length:Int)≤6)=false:=by simp;omega
    exact rk73
   case pos =>
   have dhlen:decide ((6:Int)<(x1_1.length:Int))=false:=by simp;omega
   have dl:decide ((x1_1.length:Int)≤6)=true:=by simp;omega
   cases ha:x1_1.all nameB
   case false =>
    have HR0:=hide (show recB x1[m]=false by rw[HRC.out];simp[ha])
    have Hha:=hide ha
    clear ha
    exact rk73
   case true =>
   have Hha:=hide ha
   clear ha
   cases ht:twiceB x1_1
   case true =>
    have HR0:=hide (show recB x1[m]=false by rw[HRC.out];simp[ht])
    have Hht:=hide ht
    clear ht
    exact rk73
   case false =>
   have Hht:=hide ht
   clear ht
   by_cases hl:0≤x1_2
   case neg =>
    have HR0:=hide (show recB x1[m]=false by rw[HRC.out];simp[hl])
    have dhl:decide (x1_2<0)=true:=by simp;omega
    exact rk73
   case pos =>
   have dhl:decide (x1_2<0)=false:=by simp;omega
   have HR0:=hide (show recB x1[m]=true by rw[HRC.out,Hhn.out,Hha.out,Hht.out,decide_eq_true hlen,decide_eq_true hl];first | done | rfl)
   have mkq:=True.intro
   repeat (any_goals ((first | clear mkq | go_quiet (fail));(try go_wp2_with (first | (go_at_call 38;refine (specIsName_any x1_0 _).mono ?_;rintro e wa ⟨rfl,hba⟩;(try rw[Hhn.out]);(have hza:=hba.sz;obtain⟨hka_0,hfa_0,hla_0,hna_0⟩:=hba.lay (w.heap.size);obtain⟨hka_1,hfa_1,hla_1,hna_1⟩:=hba.lay (wr.heap.size);obtain⟨hka_2,hfa_2,hla_2,hna_2⟩:=hba.lay (b1))) | (go_at_call 37;refine (namesOk_row x1_1 6 S _ _ _ (Row.bel bl GR1_1.out)).mono ?_;rintro e wb ⟨rfl,hbb⟩;(try rw[Hha.out]);(try rw[dl]);(try simp only[Bool.and_true,Bool.true_and,Bool.and_false,Bool.false_and]);(have hzb:=hbb.sz;obtain⟨hkb_0,hfb_0,hlb_0,hnb_0⟩:=hbb.lay (w.heap.size);obtain⟨hkb_1,hfb_1,hlb_1,hnb_1⟩:=hbb.lay (wr.heap.size);obtain⟨hkb_2,hfb_2,hlb_2,hnb_2⟩:=hbb.lay (b1))) | (go_at_call 39;refine (l9Twice_row x1_1 S _ _ _ (Row.bel bl GR1_1.out)).mono ?_;rintro e wc ⟨rfl,hbc⟩;(try rw[Hht.out]);(have hzc:=hbc.sz;obtain⟨hkc_0,hfc_0,hlc_0,hnc_0⟩:=hbc.lay (w.heap.size);obtain⟨hkc_1,hfc_1,hlc_1,hnc_1⟩:=hbc.lay (wr.heap.size);obtain⟨hkc_2,hfc_2,hlc_2,hnc_2⟩:=hbc.lay (b1)))))))
   go_roundw
   case rel=>exact⟨m+1,by go_num,by omega,fun j hj hjm=>by
    by_cases e:j=m
    ·
     subst e;exact HR0.out
    ·
     exact hm.out j hj (by omega),bl,hide (StoreAt.bel bl hsw.out)⟩
   case measure=>simp[intOf];omega
  have hd:decide ((m:Int)<(x1.length:Int))=false:=by simp[h1]
  have HP_rec:=hide (show ∀j (hj:j<x1.length),j<x1.length→recB x1[j]=true from fun j hj _=>hm.out j hj (by omega))
  clear hm
  go_wp2_with (fail)
  repeat (any_goals (go_quiet (fail);(try go_wp2_with (fail))))
  go_loopw [5] (fun v wr=>∃m:Nat,v=.int .i64 m∧m≤x6.length∧Hid (∀j (hj:j<x6.length),j<m→x6[j].size≤120)∧Bel w wr∧Hid (StoreAt wr S w.heap.size (TStore.mk x0 x1 x2 x3 x4 x5 x6 x7 x8 x9 x10 x11 x12))) (fun v _=>x6.length - (intOf v).toNat)
  case atStart=>exact⟨0,rfl,by omega,fun j _ hj=>by omega,bl,hide (StoreAt.bel bl hsw.out)⟩
  case round =>
   obtain⟨m,rfl,m1,hm,hbw,hsw⟩:=hrel
   have hqz:=hsw.out.1
   obtain⟨A0,c0,A1,c1,A2,c2,A3,c3,A6,c6,A7,c7,A8,c8,hqx,e0,e1,e2,e3,e4,e5,e6,e7,e8,e9,e10,e11,e12,y0,y1,y2,y3,y4,y5,y6,y7,y8,y10,y11,y12⟩:=StoreAt.cells hsw.out
   have HR6:=hide y6
   have hlc6:=y6.1
   have hcm6:=y6.2.1
   simp only[List.length_map]at hlc6
   unfold maxLen at hcm6
   clear hqx y0 y1 y2 y3 y4 y5 y6 y7 y8 y10 y11 y12
   have hbr:Bel wr wr:=Bel.refl _
   have hqn:¬w.heap.size=wr.heap.size:=by omega
   by_cases h1:m<x6.length
   ·
    have hd:decide ((m:Int)<(x6.length:Int))=true:=by simp[h1]
    obtain⟨b1,o1,hA1,hS1,hl1,hz1,c1x⟩:=strAt HR6.out m h1
    subst hA1
    replace c1x:=(hbr.box b1 hl1 _).trans c1x
    unfold maxLen at hz1
    by_cases h2:x6[m].size≤120
    ·
     have hd2:decide ((120:Int)<(x6[m].size:Int))=false:=by simp;omega
     go_wp2_with (fail)
     repeat (any_goals (go_quiet (fail);(try go_wp2_with (fail))))
     go_roundw
     case rel=>exact⟨m+1,by go_num,by omega,fun j hj hjm=>by
      by_cases e:j=m
      ·
       subst e;exact h2
      ·
       exact hm.out j hj (by omega),bl,hide (StoreAt.bel bl hsw.out)⟩
     case measure=>simp[intOf];omega
    ·
     have hd2:decide ((120:Int)<(x6[m].size:Int))=true:=by simp;omega
     have RR:=hide (val_out (s:=(TStore.mk x0 x1 x2 x3 x4 x5 x6 x7 x8 x9 x10 x11 x12)) m h1 (by show 120<x6[m].size;omega))
     exact rk77
   have hd:decide ((m:Int)<(x6.length:Int))=false:=by simp[h1]
   have HP_out:=hide (show ∀j (hj:j<x6.length),j<x6.length→x6[j].size≤120 from fun j hj _=>hm.out j hj (by omega))
   clear hm
   go_wp2_with (fail)
   repeat (any_goals (go_quiet (fail);(try go_wp2_with (fail))))
   go_loopw [6] (fun v wr=>∃m:Nat,v=.int .i64 m∧m≤x8.length∧Hid (∀j (hj:j<x8.length),j<m→actB (TStore.mk x0 x1 x2 x3 x4 x5 x6 x7 x8 x9 x10 x11 x12) x8[j]=true)∧Bel w wr∧Hid (StoreAt wr S w.heap.size (TStore.mk x0 x1 x2 x3 x4 x5 x6 x7 x8 x9 x10 x11 x12))) (fun v _=>x8.length - (intOf v).toNat)
   case atStart=>exact⟨0,rfl,by omega,fun j _ hj=>by omega,bl,hide (StoreAt.bel bl hsw.out)⟩
   case round =>
    obtain⟨m,rfl,m1,hm,hbw,hsw⟩:=hrel
    have hqz:=hsw.out.1
    obtain⟨A0,c0,A1,c1,A2,c2,A3,c3,A6,c6,A7,c7,A8,c8,hqx,e0,e1,e2,e3,e4,e5,e6,e7,e8,e9,e10,e11,e12,y0,y1,y2,y3,y4,y5,y6,y7,y8,y10,y11,y12⟩:=StoreAt.cells hsw.out
    have HR2:=hide y2
    have hlc2:=y2.1
    have hcm2:=y2.2.1
    simp only[List.length_map]at hlc2
    unfold maxLen at hcm2
    have HR8:=hide y8
    have hlc8:=y8.1
    have hcm8:=y8.2.1
    simp only[List.length_map]at hlc8
    unfold maxLen at hcm8
    clear hqx y0 y1 y2 y3 y4 y5 y6 y7 y8 y10 y11 y12
    have hbr:Bel wr wr:=Bel.refl _
    have hqn:¬w.heap.size=wr.heap.size:=by omega
    by_cases h1:m<x8.length
    ·
     have hd:decide ((m:Int)<(x8.length:Int))=true:=by simp[h1]
     (obtain⟨b1,o1,x1_0,x1_1,hA1,hS1,hl1,hx1,hv1,g1_0,g1_1,c1_0,c1_1⟩:=TActive.at HR8.out m h1;subst hA1;have HV1:=hide (Dat.HoldVals.bel hbr hv1);have hh1:=hbr.box b1 hl1;have hw1:=Nat.lt_of_lt_of_le hl1 (Bel.size hbr);replace c1_0:=(hh1 _).trans c1_0;replace c1_1:=(hh1 _).trans c1_1;have HX1:=hide hx1;clear hh1 hv1 hx1 hS1)
     have hne1:¬b1=wr.heap.size:=by omega
     have HAC:=hide (show actB (TStore.mk x0 x1 x2 x3 x4 x5 x6 x7 x8 x9 x10 x11 x12) x8[m]=(decide (0≤x1_0∧x1_0<(x0.length:Int))&&decide (0≤x1_1∧x1_1<(x2.length:Int))&&(match x2[x1_1.toNat]? with | some o=>decide (o.kind=1) | none=>false)) by rw[HX1.out];rfl)
     by_cases hr:0≤x1_0∧x1_0<(x0.length:Int)
     case neg =>
      have RR:=hide (val_act (s:=(TStore.mk x0 x1 x2 x3 x4 x5 x6 x7 x8 x9 x10 x11 x12)) m h1 (HAC.out.trans (by rw[decide_eq_false hr];rfl)))
      have dr:(decide (0≤x1_0)&&decide (x1_0≤(x0.length:Int) - 1))=false:=by simp;omega
      clear hr
      exact rk160
     case pos =>
     have dr:decide (0≤x1_0)=true:=by simp;omega
     have dr2:decide (x1_0≤(x0.length:Int) - 1)=true:=by simp;omega
     by_cases hf:0≤x1_1∧x1_1<(x2.length:Int)
     case neg =>
      have RR:=hide (val_act (s:=(TStore.mk x0 x1 x2 x3 x4 x5 x6 x7 x8 x9 x10 x11 x12)) m h1 (HAC.out.trans (by rw[decide_eq_false hf];simp)))
      have df:(decide (0≤x1_1)&&decide (x1_1≤(x2.length:Int) - 1))=false:=by simp;omega
      clear hf
      exact rk160
     case pos =>
     obtain⟨hf0,hf1⟩:=hf
     obtain⟨fr,rfl⟩:=Int.eq_ofNat_of_zero_le hf0
     have hfr:fr<x2.length:=by omega
     have df:decide ((0:Int)≤(fr:Int))=true:=by simp
     have df2:decide ((fr:Int)≤(x2.length:Int) - 1)=true:=by simp;omega
     (obtain⟨b2,o2,x2_0,x2_1,x2_2,x2_3,x2_4,A2_3,C2_3,A2_4,C2_4,hA2,hS2,hl2,hx2,hv2,g2_0,g2_1,g2_2,g2_3,g2_4,c2_0,c2_1,c2_2,c2_3,c2_4⟩:=TObject.at HR2.out fr hfr;subst hA2;have HV2:=hide (Dat.HoldVals.bel hbr hv2);have hh2:=hbr.box b2 hl2;have hw2:=Nat.lt_of_lt_of_le hl2 (Bel.size hbr);replace c2_0:=(hh2 _).trans c2_0;replace c2_1:=(hh2 _).trans c2_1;replace c2_2:=(hh2 _).trans c2_2;replace c2_3:=(hh2 _).trans c2_3;replace c2_4:=(hh2 _).trans c2_4;have HX2:=hide hx2;have GR2_3:=hide g2_3;have GR2_4:=hide g2_4;clear hh2 hv2 hx2 hS2 g2_3 g2_4)
     have hne2:¬b2=wr.heap.size:=by omega
     have HAC2:=hide (HAC.out.trans (show _=decide (x2_0=1) by rw[decide_eq_true hr,decide_eq_true (show 0≤(fr:Int)∧(fr:Int)<(x2.length:Int) by omega),show ((fr:Int)).toNat=fr from Int.toNat_natCast fr,List.getElem?_eq_getElem hfr,HX2.out];rfl))
     by_cases hk:x2_0=1
     ·
      have fk:(x2_0 != 1)=false:=by simp[hk]
      have HNW:=hide (HAC2.out.trans (decide_eq_true hk))
      clear hk
      have mkq:=True.intro
      repeat (any_goals ((first | clear mkq | go_quiet (fail));(try go_wp2_with (go_at_call 36;refine (l1InS_any _ _ _ _).mono ?_;rintro e w9 ⟨rfl,rfl⟩))))
      exact rk193
     ·
      have fk:(x2_0 != 1)=true:=by simp[hk]
      have RR:=hide (val_act (s:=(TStore.mk x0 x1 x2 x3 x4 x5 x6 x7 x8 x9 x10 x11 x12)) m h1 (HAC2.out.trans (decide_eq_false hk)))
      clear hk
      exact rk160
    have hd:decide ((m:Int)<(x8.length:Int))=false:=by simp[h1]
    have HP_act:=hide (show ∀j (hj:j<x8.length),j<x8.length→actB (TStore.mk x0 x1 x2 x3 x4 x5 x6 x7 x8 x9 x10 x11 x12) x8[j]=true from fun j hj _=>hm.out j hj (by omega))
    clear hm
    go_wp2_with (fail)
    repeat (any_goals (go_quiet (fail);(try go_wp2_with (fail))))
    go_loopw [8] (fun v wr=>∃m:Nat,v=.int .i64 m∧m≤x2.length∧Hid ((∀j (hj:j<x2.length),j<m→objB (TStore.mk x0 x1 x2 x3 x4 x5 x6 x7 x8 x9 x10 x11 x12) x2[j]=true∧∀k (hk:k<j),x2[j].serial=0∨(x2[k]'(by omega)).serial≠x2[j].serial))∧Bel w wr∧Hid (StoreAt wr S w.heap.size (TStore.mk x0 x1 x2 x3 x4 x5 x6 x7 x8 x9 x10 x11 x12))) (fun v _=>x2.length - (intOf v).toNat)
    case atStart=>exact⟨0,rfl,by omega,fun j _ hj=>by omega,bl,hide (StoreAt.bel bl hsw.out)⟩
    case round =>
     obtain⟨m,rfl,m1,hm,hbw,hsw⟩:=hrel
     have hqz:=hsw.out.1
     obtain⟨A0,c0,A1,c1,A2,c2,A3,c3,A6,c6,A7,c7,A8,c8,hqx,e0,e1,e2,e3,e4,e5,e6,e7,e8,e9,e10,e11,e12,y0,y1,y2,y3,y4,y5,y6,y7,y8,y10,y11,y12⟩:=StoreAt.cells hsw.out
     have HR2:=hide y2
     have hlc2:=y2.1
     have hcm2:=y2.2.1
     simp only[List.length_map]at hlc2
     unfold maxLen at hcm2
     have HR3:=hide y3
     have hlc3:=y3.1
     have hcm3:=y3.2.1
     simp only[List.length_map]at hlc3
     unfold maxLen at hcm3
     clear hqx y0 y1 y2 y3 y4 y5 y6 y7 y8 y10 y11 y12
     have hbr:Bel wr wr:=Bel.refl _
     have hqn:¬w.heap.size=wr.heap.size:=by omega
     by_cases h1:m<x2.length
     ·
      have hd:decide ((m:Int)<(x2.length:Int))=true:=by simp[h1]
      (obtain⟨b1,o1,x1_0,x1_1,x1_2,x1_3,x1_4,A1_3,C1_3,A1_4,C1_4,hA1,hS1,hl1,hx1,hv1,g1_0,g1_1,g1_2,g1_3,g1_4,c1_0,c1_1,c1_2,c1_3,c1_4⟩:=TObject.at HR2.out m h1;subst hA1;have HV1:=hide (Dat.HoldVals.bel hbr hv1);have hh1:=hbr.box b1 hl1;have hw1:=Nat.lt_of_lt_of_le hl1 (Bel.size hbr);replace c1_0:=(hh1 _).trans c1_0;replace c1_1:=(hh1 _).trans c1_1;replace c1_2:=(hh1 _).trans c1_2;replace c1_3:=(hh1 _).trans c1_3;replace c1_4:=(hh1 _).trans c1_4;have HX1:=hide hx1;have GR1_3:=hide g1_3;have GR1_4:=hide g1_4;clear hh1 hv1 hx1 hS1 g1_3 g1_4)
      have hne1:¬b1=wr.heap.size:=by omega
      have hlk:=GR1_3.out.1
      have hlm:=GR1_3.out.2.1
      have hlk4:=GR1_4.out.1
      have hlm4:=GR1_4.out.2.1
      have HSW:=hsw
      cases ho:objB (TStore.mk x0 x1 x2 x3 x4 x5 x6 x7 x8 x9 x10 x11 x12) x2[m]
      ·
       have HO:=hide ho
       have RR:=hide (val_obj (s:=(TStore.mk x0 x1 x2 x3 x4 x5 x6 x7 x8 x9 x10 x11 x12)) m h1 ho)
       clear ho
       have mkq:=True.intro
       repeat (any_goals ((first | clear mkq | go_quiet (fail));(try go_wp2_with (go_at_call 40;refine (specObj_any (TStore.mk x0 x1 x2 x3 x4 x5 x6 x7 x8 x9 x10 x11 x12) x2[m] S S w.heap.size _ _ (StoreAt.bel bl HSW.out) (Dat.HoldVals.bel bl HV1.out)).mono ?_;rintro e wo ⟨rfl,hbo⟩;rw[HO.out];(have hzo:=hbo.sz;obtain⟨hko_0,hfo_0,hlo_0,hno_0⟩:=hbo.lay (w.heap.size);obtain⟨hko_1,hfo_1,hlo_1,hno_1⟩:=hbo.lay (b1))))))
       all_goals
        go_returns
        exact⟨ret_bl RR.out.symm,bl⟩
      ·
       have HO:=hide ho
       clear ho
       have mkq:=True.intro
       repeat (any_goals ((first | clear mkq | go_quiet (fail));(try go_wp2_with (go_at_call 40;refine (specObj_any (TStore.mk x0 x1 x2 x3 x4 x5 x6 x7 x8 x9 x10 x11 x12) x2[m] S S w.heap.size _ _ (StoreAt.bel bl HSW.out) (Dat.HoldVals.bel bl HV1.out)).mono ?_;rintro e wo ⟨rfl,hbo⟩;rw[HO.out];(have hzo:=hbo.sz;obtain⟨hko_0,hfo_0,hlo_0,hno_0⟩:=hbo.lay (w.heap.size);obtain⟨hko_1,hfo_1,hlo_1,hno_1⟩:=hbo.lay (b1))))))
       have HSO:=hide (StoreAt.bel (show Bel wr wo from bl) hsw.out)
       have hbwo:Bel w wo:=bl
       go_loopw [9] (fun v wr2=>∃k:Nat,v=.int .i64 k∧k≤m∧Hid (∀j (hj:j<k) (hjm:j<x2.length),x1_2=0∨x2[j].serial≠x1_2)∧Bel w wr2∧Hid (StoreAt wr2 S w.heap.size (TStore.mk x0 x1 x2 x3 x4 x5 x6 x7 x8 x9 x10 x11 x12))) (fun v _=>m - (intOf v).toNat)
       case atStart=>exact⟨0,rfl,by omega,fun j hj _=>by omega,bl,HSO.out⟩
       case round =>
        obtain⟨k,rfl,k1,hk,hbw2,hsw⟩:=hrel
        have HX0:=HX1
        have hqz:=hsw.out.1
        obtain⟨A0,c0,A1,c1,A2,c2,A3,c3,A6,c6,A7,c7,A8,c8,hqx,e0,e1,e2,e3,e4,e5,e6,e7,e8,e9,e10,e11,e12,y0,y1,y2,y3,y4,y5,y6,y7,y8,y10,y11,y12⟩:=StoreAt.cells hsw.out
        have HR2:=hide y2
        have hlc2:=y2.1
        have hcm2:=y2.2.1
        simp only[List.length_map]at hlc2
        unfold maxLen at hcm2
        clear hqx y0 y1 y2 y3 y4 y5 y6 y7 y8 y10 y11 y12
        have hbr:Bel wr wr:=Bel.refl _
        have hqn:¬w.heap.size=wr.heap.size:=by omega
        have hSX:=hide (show x2[m].serial=x1_2 by rw[HX1.out];rfl)
        by_cases h2:k<m
        ·
         have hd2:decide ((k:Int)<(m:Int))=true:=by simp[h2]
         have h2':k<x2.length:=by omega
         (obtain⟨b4,o4,x4_0,x4_1,x4_2,x4_3,x4_4,A4_3,C4_3,A4_4,C4_4,hA4,hS4,hl4,hx4,hv4,g4_0,g4_1,g4_2,g4_3,g4_4,c4_0,c4_1,c4_2,c4_3,c4_4⟩:=TObject.at HR2.out m h1;subst hA4;have HV4:=hide (Dat.HoldVals.bel hbr hv4);have hh4:=hbr.box b4 hl4;have hw4:=Nat.lt_of_lt_of_le hl4 (Bel.size hbr);replace c4_0:=(hh4 _).trans c4_0;replace c4_1:=(hh4 _).trans c4_1;replace c4_2:=(hh4 _).trans c4_2;replace c4_3:=(hh4 _).trans c4_3;replace c4_4:=(hh4 _).trans c4_4;have HX4:=hide hx4;have GR4_3:=hide g4_3;have GR4_4:=hide g4_4;clear hh4 hv4 hx4 hS4 g4_3 g4_4)
         (obtain⟨b5,o5,x5_0,x5_1,x5_2,x5_3,x5_4,A5_3,C5_3,A5_4,C5_4,hA5,hS5,hl5,hx5,hv5,g5_0,g5_1,g5_2,g5_3,g5_4,c5_0,c5_1,c5_2,c5_3,c5_4⟩:=TObject.at HR2.out k h2';injection Option.some.inj hA5 with qb5 qo5 _;subst qb5 qo5;have HV5:=hide (Dat.HoldVals.bel hbr hv5);have hh5:=hbr.box b4 hl5;have hw5:=Nat.lt_of_lt_of_le hl5 (Bel.size hbr);replace c5_0:=(hh5 _).trans c5_0;replace c5_1:=(hh5 _).trans c5_1;replace c5_2:=(hh5 _).trans c5_2;replace c5_3:=(hh5 _).trans c5_3;replace c5_4:=(hh5 _).trans c5_4;have HX5:=hide hx5;have GR5_3:=hide g5_3;have GR5_4:=hide g5_4;clear hh5 hv5 hx5 hS5 g5_3 g5_4)
         obtain⟨-,-,rfl,-,-⟩:x1_0=x4_0∧x1_1=x4_1∧x1_2=x4_2∧x1_3=x4_3∧x1_4=x4_4:=by have:=HX1.out.symm.trans HX4.out;simpa using this
         have hS5:=hide (show x2[k].serial=x5_2 by rw[HX5.out];rfl)
         by_cases hs0:x1_2=0
         ·
          have fs:(x1_2 != 0)=false:=by simp[hs0]
          have HNW:=hide (show x1_2=0∨x2[k].serial≠x1_2 from Or.inl hs0)
          clear hs0
          exact rk182
         ·
          have fs:(x1_2 != 0)=true:=by simp[hs0]
          by_cases hse:x1_2=x5_2
          ·
           have fe:(x1_2==x5_2)=true:=by simp[hse]
           have RR:=hide (val_ser (s:=(TStore.mk x0 x1 x2 x3 x4 x5 x6 x7 x8 x9 x10 x11 x12)) (ser_no m k (by simpa[TStore.objects_mk]using h1) h2 (by simp only[TStore.objects_mk,List.getElem_map];rw[hSX.out];exact hs0) (by simp only[TStore.objects_mk,List.getElem_map];rw[hSX.out,hS5.out];exact hse.symm)))
           clear hs0 hse
           exact rk77
          ·
           have fe:(x1_2==x5_2)=false:=by simp[hse]
           have HNW:=hide (show x1_2=0∨x2[k].serial≠x1_2 from Or.inr (by rw[hS5.out];exact fun e=>hse e.symm))
           clear hs0 hse
           exact rk182
        ·
         have hd2:decide ((k:Int)<(m:Int))=false:=by simp[h2]
         go_wp2_with (fail)
         repeat (any_goals (go_quiet (fail);(try go_wp2_with (fail))))
         go_roundw
         case rel=>exact⟨m+1,by go_num,by omega,fun j hj hjm=>by
          by_cases e:j=m
          ·
           subst e;exact⟨HO.out,fun k2 hk2=>by rw[hSX.out];exact hk.out k2 (by omega) (by omega)⟩
          ·
           exact hm.out j hj (by omega),bl,hide (StoreAt.bel bl hsw.out)⟩
         case measure=>simp[intOf];omega
     have hd:decide ((m:Int)<(x2.length:Int))=false:=by simp[h1]
     have HP_obj:=hide (show (∀j (hj:j<x2.length),j<x2.length→objB (TStore.mk x0 x1 x2 x3 x4 x5 x6 x7 x8 x9 x10 x11 x12) x2[j]=true∧∀k (hk:k<j),x2[j].serial=0∨(x2[k]'(by omega)).serial≠x2[j].serial)from fun j hj _=>hm.out j hj (by omega))
     clear hm
     go_wp2_with (fail)
     repeat (any_goals (go_quiet (fail);(try go_wp2_with (fail))))
     cases hg:allB (TStore.mk x0 x1 x2 x3 x4 x5 x6 x7 x8 x9 x10 x11 x12) x3
     ·
      have HG:=hide hg
      have RR:=hide (val_glo (s:=(TStore.mk x0 x1 x2 x3 x4 x5 x6 x7 x8 x9 x10 x11 x12)) hg)
      clear hg
      exact rk175
     ·
      have HG:=hide hg
      have RR:=hide (val_yes (s:=(TStore.mk x0 x1 x2 x3 x4 x5 x6 x7 x8 x9 x10 x11 x12)) HH.out (fun j hj=>HP_rec.out j hj hj) (fun j hj=>HP_out.out j hj hj) (fun j hj=>HP_act.out j hj hj) (fun j hj=>(HP_obj.out j hj hj).1) (ser_of fun a ha b hb=>by simp only[List.getElem_map];exact (HP_obj.out a (by simpa[TStore.objects_mk]using ha) (by simpa[TStore.objects_mk]using ha)).2 b hb) hg)
      clear hg
      exact rk175
end Go.Proofs.YtoikhhnmbbbjjaaDoor
