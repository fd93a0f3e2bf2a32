/- IsValidStore: the program. -/
import Derived.Test.YtoikhhnmbbbjjaaDoorPr
import Derived.Test.YtoikhhnmbbbjjaaDoorPS7h
import Derived.Test.YtoikhhnmbbbjjaaDoorPShelf
import Derived.Maps.OwnOps
import Derived.Maps.OwnSet
namespace Go.Proofs.YtoikhhnmbbbjjaaDoor
set_option linter.unusedVariables false
set_option linter.unusedSimpArgs false
set_option maxRecDepth 100000
open Go.RowKit Go.Maps
--%quiet
theorem actB_has {s:TStore} {r f:Int}:actB s (.mk r f)=(decide (0≤r∧r<(s.names.length:Int))&&hasB s f 1):=by
 unfold actB hasB
 simp only[TActive.routine,TActive.frame]
 by_cases h0:0≤f
 ·
  by_cases hl:f<(s.objects.length:Int)
  ·
   simp[h0,hl]
   first | rfl | (congr 1;by_cases a:0≤r <;> by_cases b:r<(s.names.length:Int) <;> simp[a,b])
  ·
   have hn:s.objects[f.toNat]?=none:=List.getElem?_eq_none (by omega)
   simp[hl,hn]
 ·
  simp[h0]
theorem plainElem_bool_inv {H:Type} {P:Program} {e:TypeId} (he:P.underlying e=some .bool) {v:Value} {z:DataW H × List MemPlace} (h:plainElem P e v=some z):∃x,v=.bool x∧z=(.lit (.bool x),[]):=by
 unfold plainElem at h
 rw[he]at h
 cases v <;> simp at h
 exact⟨_,rfl,h.symm⟩
theorem World.ownsMap.lookup_bool {H:Type} {P:Program} {k:TypeId} {w:World} {b n:Nat} {D:DataW H} {t e:TypeId} (h:w.ownsMap P k (plainElem P e) b n D) (K:Keyed P k) (ht:P.underlying t=some (.map k e)) (he:P.underlying e=some .bool) (hz:(zeroValue e).run P w=.ok (.bool false) w)
  {key:Value} {kl:Lit} (hkey:keyOf P k key=some kl):∃c,(Instr.lookup t (.map (some b)) key false).run P w=.ok (.bool c) w∧D.atKey kl (.lit (.bool false))=.lit (.bool c):=by
 obtain⟨v,ps,hrun,hv⟩:=Go.World.ownsMap.lookup h K ht hz (plainElem_bool he false) hkey
 obtain⟨c,rfl,hc⟩:=plainElem_bool_inv he hv
 simp only[Prod.mk.injEq]at hc
 exact⟨c,hrun,hc.1⟩
theorem wpList_lookup_own_bool {H:Type} {P:Program} (w:World) {ops:Array Oper} {rest:List Oper} {o:Oper} {a:Act} {Q:Exit→Act→World→Prop}
  (hg:o.guard=none) (m x:Operand) (t:TypeId) (hop:o.op=Op.lookup t m x false)
  (k e:TypeId) (K:Keyed P k) (ht:P.underlying t=some (.map k e)) (he:P.underlying e=some .bool) (hz:(zeroValue e).run P w=.ok (.bool false) w) (b n:Nat) (D:DataW H)
  (hm:a.eval m=.map (some b)) (hown:w.ownsMap P k (plainElem P e) b n D) (key:Value) (kl:Lit) (hx:a.eval x=key) (hkey:keyOf P k key=some kl)
  (hK:∀c:Bool,D.atKey kl (.lit (.bool false))=.lit (.bool c)→wpList P ops Q rest (a.put o.dst (.bool c)) w) :
  wpList P ops Q (o :: rest) a w:=by
 refine wpList_plain hg fun K' hK'=>?_
 obtain⟨c,hrun,hat⟩:=World.ownsMap.lookup_bool hown K ht he hz hkey
 unfold Oper.wp
 simp[execOp,hop,hm,hx,hrun,Result.andThen]
 exact hK' _ _ (hK c hat)
theorem ownsMap_bel {H:Type} {P:Program} {k:TypeId} {R:Value→Option (DataW H × List MemPlace)} {w w':World} {b n:Nat} {D:DataW H} (h:w.ownsMap P k R b n D) (hb:Bel w w'):w'.ownsMap P k R b n D:=by
 have hlt:=h.lt
 obtain⟨es,clock,hbk,F,hs,hD⟩:=h
 exact⟨es,clock,(Below.block hb b hlt).trans hbk,F,hs,hD⟩
theorem keyInt:Keyed Tryd.prog 3:=int_keyed Tryd.underlying3
theorem zeroBool (w:World):(zeroValue 4).run Tryd.prog w=.ok (.bool false) w:=by kernel_rfl
def Seen (l:List TObject) (m:Nat) (D:DataW Unit):Prop:=IsMap D∧∀n:Int,InI n→D.atKey (.int .i64 n) (.lit (.bool false))=.lit (.bool ((l.take m).any fun o=>decide (o.serial=n)&&decide (n≠0)))
theorem Seen.zero (l:List TObject):Seen l 0 (.map []):=⟨isMap_empty,fun n _=>by simp[DataW.atKey]⟩
theorem Seen.skip {l:List TObject} {m:Nat} {D:DataW Unit} (h:Seen l m D) (hm:m<l.length) (h0:l[m].serial=0):Seen l (m+1) D:=by
 refine⟨h.1,fun n hn=>?_⟩
 rw[h.2 n hn,List.take_succ_eq_append_getElem hm,List.any_append]
 have:((([l[m]]:List TObject)).any fun o=>decide (o.serial=n)&&decide (n≠0))=false:=by
  simp only[List.any_cons,List.any_nil,Bool.or_false,h0]
  by_cases e:n=0
  ·
   simp[e]
  ·
   rw[decide_eq_false (fun q=>e q.symm)];rfl
 rw[this,Bool.or_false]
theorem wf_of_inI {n:Int} (h:InI n):(Lit.int .i64 n).wf=true:=WalkArith.wf_i64 (by unfold InI at h;omega)
theorem keyLit {n:Int} (h:InI n):WideAt.IsKeyLit (.int .i64 n):=by
 have:=Maps.keyOf_int_mk (P:=Tryd.prog) Tryd.underlying3 (wf_of_inI h)
 first | exact WideAt.isKeyLit_int _ _ | exact trivial | (unfold WideAt.IsKeyLit;trivial) | simp[WideAt.IsKeyLit]
theorem Seen.put {l:List TObject} {m:Nat} {D:DataW Unit} (h:Seen l m D) (hm:m<l.length) (h0:l[m].serial≠0) (hi:InI l[m].serial):Seen l (m+1) (D.put (.int .i64 l[m].serial) (.lit (.bool true))):=by
 refine⟨h.1.put _ _,fun n hn=>?_⟩
 rw[List.take_succ_eq_append_getElem hm,List.any_append]
 by_cases e:n=l[m].serial
 ·
  subst e
  rw[atKey_put_same h.1 (keyLit hi)]
  simp[h0]
 ·
  rw[atKey_put_other (fun q=>e (by injection q)),h.2 n hn]
  have:((([l[m]]:List TObject)).any fun o=>decide (o.serial=n)&&decide (n≠0))=false:=by
   simp only[List.any_cons,List.any_nil,Bool.or_false]
   rw[decide_eq_false (fun q=>e q.symm)];rfl
  rw[this,Bool.or_false]
theorem seen_any {l:List TObject} {m:Nat} {n:Int} (hn:n≠0):((l.take m).any fun o=>decide (o.serial=n)&&decide (n≠0))=true↔∃k,∃(h:k<l.length),k<m∧l[k].serial=n:=by
 rw[List.any_eq_true]
 constructor
 ·
  rintro⟨o,ho,he⟩
  obtain⟨k,hk,rfl⟩:=List.mem_iff_getElem.1 ho
  rw[List.getElem_take]at he
  simp only[Bool.and_eq_true,decide_eq_true_eq]at he
  exact⟨k,by simp at hk;omega,by simp at hk;omega,he.1⟩
 ·
  rintro⟨k,h1,h2,h3⟩
  exact⟨l[k],List.mem_iff_getElem.2 ⟨k,by simp;omega,by simp⟩,by simp[h3,hn]⟩
set_option maxHeartbeats 1000000 in
theorem validRecords_row (l:List TRecordType) (S:Nat→Prop) (w:World) (A:Option Addr) (c:Nat) (hR:Row w S 3 A c (l.map TRecordType.D)) (ht:Sp w) :
  Calls Tryd.prog 21 #[.slice A l.length c] w fun e w'=>e=.returned (.bool (l.all recB&&decide (l.length≤8)))∧Bel w w':=by
 have HR:=hide hR
 have HT:=hide ht
 have hlen:=hR.1
 have hcm:=hR.2.1
 simp only[List.length_map]at hlen
 unfold maxLen at hcm
 clear hR ht
 go_enter Tryd.func21,Tryd.ntmps21
 go_wp2_with (fail)
 repeat (any_goals (go_quiet (fail);(try go_wp2_with (fail))))
 go_loopw [7] (fun v wr=>∃m:Nat,v=.int .i64 m∧m≤l.length∧Hid (∀j (hj:j<l.length),j<m→recB l[j]=true)∧Bel w wr) (fun v _=>l.length - (intOf v).toNat)
 case atStart=>exact⟨0,rfl,by omega,fun j _ hj=>by omega,bl⟩
 case round =>
  obtain⟨m,rfl,m1,hm,hbw⟩:=hrel
  by_cases h1:m<l.length
  ·
   have hd:decide ((m:Int)<(l.length:Int))=true:=by simp[h1]
   (obtain⟨b1,o1,x1_0,x1_1,x1_2,A1_1,C1_1,hA1,hS1,hl1,hx1,hv1,g1_0,g1_1,g1_2,c1_0,c1_1,c1_2⟩:=TRecordType.at HR.out m h1;subst hA1;have HV1:=hide (Dat.HoldVals.bel hbw hv1);have hh1:=hbw.box b1 hl1;have hw1:=Nat.lt_of_lt_of_le hl1 (Bel.size hbw);replace c1_0:=(hh1 _).trans c1_0;replace c1_1:=(hh1 _).trans c1_1;replace c1_2:=(hh1 _).trans c1_2;have HX1:=hide hx1;have GR1_1:=hide g1_1;clear hh1 hv1 hx1 hS1 g1_1)
   have hne1:¬b1=wr.heap.size:=by omega
   have HRC:=hide (show recB l[m]=(nameB x1_0&&x1_1.all nameB&&decide (x1_1.length≤6) && !twiceB x1_1&&decide (0≤x1_2)) by rw[HX1.out];rfl)
   have hf:=GR1_1.out.1
   have hfm:=GR1_1.out.2.1
   simp only[List.length_map]at hf
   unfold maxLen at hfm g1_0
   cases hn:nameB x1_0
   case false =>
    have HR0:=hide (show recB l[m]=false by rw[HRC.out];simp[hn])
    have Hhn:=hide hn
    clear hn
    exact rk75
   case true =>
   have Hhn:=hide hn
   clear hn
   by_cases hlen:x1_1.length≤6
   case neg =>
    have HR0:=hide (show recB l[m]=false by rw[HRC.out];simp[hlen])
    have dhlen:decide ((6:Int)<(x1_1.length:Int))=true:=by simp;omega
    have dl:decide ((x1_1.length:Int)≤6)=false:=by simp;omega
    exact rk75
   case pos =>
   have dhlen:decide ((6:Int)<(x1_1.length:Int))=false:=by simp;omega
   have dl:decide ((x1_1.length:Int)≤6)=true:=by simp;omega
   cases ha:x1_1.all nameB
   case false =>
    have HR0:=hide (show recB l[m]=false by rw[HRC.out];simp[ha])
    have Hha:=hide ha
    clear ha
    exact rk75
   case true =>
   have Hha:=hide ha
   clear ha
   cases ht:twiceB x1_1
   case true =>
    have HR0:=hide (show recB l[m]=false by rw[HRC.out];simp[ht])
    have Hht:=hide ht
    clear ht
    exact rk75
   case false =>
   have Hht:=hide ht
   clear ht
   by_cases hl:0≤x1_2
   case neg =>
    have HR0:=hide (show recB l[m]=false by rw[HRC.out];simp[hl])
    have dhl:decide (x1_2<0)=true:=by simp;omega
    exact rk75
   case pos =>
   have dhl:decide (x1_2<0)=false:=by simp;omega
   have HR0:=hide (show recB l[m]=true by rw[HRC.out,Hhn.out,Hha.out,Hht.out,decide_eq_true hlen,decide_eq_true hl];first | done | rfl)
   have mkq:=True.intro
   repeat (any_goals ((first | clear mkq | go_quiet (fail));(try go_wp2_with (first | (go_at_call 44;refine (implIsName_any x1_0 _ (HT.out.on bl)).mono ?_;rintro e wa ⟨rfl,hba⟩;(try rw[Hhn.out]);(have hza:=hba.sz;obtain⟨hka_0,hfa_0,hla_0,hna_0⟩:=hba.lay (wr.heap.size);obtain⟨hka_1,hfa_1,hla_1,hna_1⟩:=hba.lay (b1))) | (go_at_call 20;refine (allNames_row x1_1 S _ _ _ (Row.bel bl GR1_1.out) (HT.out.on bl)).mono ?_;rintro e wb ⟨rfl,hbb⟩;(try rw[Hha.out]);(have hzb:=hbb.sz;obtain⟨hkb_0,hfb_0,hlb_0,hnb_0⟩:=hbb.lay (wr.heap.size);obtain⟨hkb_1,hfb_1,hlb_1,hnb_1⟩:=hbb.lay (b1))) | (go_at_call 45;refine (repeated_row x1_1 S _ _ _ (Row.bel bl GR1_1.out)).mono ?_;rintro e wc ⟨rfl,hbc⟩;(try rw[Hht.out]);(have hzc:=hbc.sz;obtain⟨hkc_0,hfc_0,hlc_0,hnc_0⟩:=hbc.lay (wr.heap.size);obtain⟨hkc_1,hfc_1,hlc_1,hnc_1⟩:=hbc.lay (b1)))))))
   go_roundw
   case rel=>exact⟨m+1,by go_num,by omega,fun j hj hjm=>by
    by_cases e:j=m
    ·
     subst e;exact HR0.out
    ·
     exact hm.out j hj (by omega),bl⟩
   case measure=>simp[intOf];omega
  ·
   have hd:decide ((m:Int)<(l.length:Int))=false:=by simp[h1]
   have HE:=hide (show decide ((l.length:Int)≤8)=(l.all recB&&decide (l.length≤8)) by rw[all_mem (f:=recB) (l:=l) fun k hk=>hm.out k hk (by omega),Bool.true_and];rw[Bool.eq_iff_iff];simp;omega)
   go_wp2_with (fail)
   repeat (any_goals (go_quiet (fail);(try go_wp2_with (fail))))
   all_goals
    go_returns
    exact⟨ret_bl HE.out,bl⟩
set_option maxHeartbeats 8000000 in
theorem implValid_any (s:TStore) (S:Nat→Prop) (w:World) (vs:List Value) (htab:Sp w) (hv:Dat.HoldVals w S s.D vs):Calls Tryd.prog 9 #[.agg vs.toArray] w fun e w'=>e=.returned (.bool (validB s))∧Bel w w':=by
 revert hv
 intro hv
 obtain⟨x0,x1,x2,x3,x4,x5,x6,x7,x8,x9,x10,x11,x12⟩:=s
 have HV:=hide hv
 obtain⟨A0,c0,A1,c1,A2,c2,A3,c3,A6,c6,A7,c7,A8,c8,rfl,g0,g1,g2,g3,g4,g5,g6,g7,g8,-,g10,g11,g12⟩:=TStore.vals hv
 have HR0:=hide g0
 have hlc0:=g0.1
 have hcm0:=g0.2.1
 simp only[List.length_map]at hlc0
 unfold maxLen at hcm0
 have HR1:=hide g1
 have hlc1:=g1.1
 have hcm1:=g1.2.1
 simp only[List.length_map]at hlc1
 unfold maxLen at hcm1
 have HR2:=hide g2
 have hlc2:=g2.1
 have hcm2:=g2.2.1
 simp only[List.length_map]at hlc2
 unfold maxLen at hcm2
 have HR3:=hide g3
 have hlc3:=g3.1
 have hcm3:=g3.2.1
 simp only[List.length_map]at hlc3
 unfold maxLen at hcm3
 have HR6:=hide g6
 have hlc6:=g6.1
 have hcm6:=g6.2.1
 simp only[List.length_map]at hlc6
 unfold maxLen at hcm6
 have HR7:=hide g7
 have hlc7:=g7.1
 have hcm7:=g7.2.1
 simp only[List.length_map]at hlc7
 unfold maxLen at hcm7
 have HR8:=hide g8
 have hlc8:=g8.1
 have hcm8:=g8.2.1
 simp only[List.length_map]at hlc8
 unfold maxLen at hcm8
 unfold maxLen at g4
 clear hv g0 g1 g2 g3 g6 g7 g8
 have HS1:=hide (show StoreAt (w.alloc (.cells #[.slice A0 x0.length c0,.slice A1 x1.length c1,.slice A2 x2.length c2,.slice A3 x3.length c3,.string x4,.int .i64 x5,.slice A6 x6.length c6,.slice A7 x7.length c7,.slice A8 x8.length c8,.bool x9,.int .i64 x10,.int .i64 x11,.int .i64 x12] 30)) S w.heap.size (TStore.mk x0 x1 x2 x3 x4 x5 x6 x7 x8 x9 x10 x11 x12)from StoreAt.mk_of HV.out rfl)
 have HT:=hide htab
 clear htab
 by_cases hc0:x0.length≤12
 case neg =>
  have RR:=hide (val_head (s:=(TStore.mk x0 x1 x2 x3 x4 x5 x6 x7 x8 x9 x10 x11 x12)) (by rw[head_mk,decide_eq_false hc0];simp))
  have d0:decide ((12:Int)<(x0.length:Int))=true:=by simp;omega
  go_enter Tryd.func9,Tryd.ntmps9
  exact rk77
 case pos =>
 have d0:decide ((12:Int)<(x0.length:Int))=false:=by simp;omega
 by_cases hc1:x0.all nameB=true
 case neg =>
  have RR:=hide (val_head (s:=(TStore.mk x0 x1 x2 x3 x4 x5 x6 x7 x8 x9 x10 x11 x12)) (by rw[head_mk,Bool.eq_false_iff.2 hc1];simp))
  have HN:=hide (Bool.eq_false_iff.2 hc1)
  have HH1:=hide hc1
  clear hc1
  go_enter Tryd.func9,Tryd.ntmps9
  have mkq:=True.intro
  repeat (any_goals ((first | clear mkq | go_quiet (fail));(try go_wp2_with (first | (go_at_call 20;refine (allNames_row x0 S _ _ _ (Row.bel bl HR0.out) (HT.out.on bl)).mono ?_;rintro e w8 ⟨rfl,hb8⟩;rw[HN.out];(have hz8:=hb8.sz;obtain⟨hk8_0,hf8_0,hl8_0,hn8_0⟩:=hb8.lay (w.heap.size)))))))
  all_goals
   go_returns
   exact⟨ret_bl RR.out.symm,bl⟩
 case pos =>
 have HN:=hide (hc1)
 have HH1:=hide hc1
 clear hc1
 by_cases hc2:(x1.all recB&&decide (x1.length≤8))=true
 case neg =>
  have RR:=hide (val_recs (s:=(TStore.mk x0 x1 x2 x3 x4 x5 x6 x7 x8 x9 x10 x11 x12)) hc2)
  have HRE:=hide (Bool.eq_false_iff.2 hc2)
  have HH2:=hide hc2
  clear hc2
  exact rk18
 case pos =>
 have HRE:=hide (hc2)
 have HH2:=hide hc2
 clear hc2
 by_cases hc3:x3.length≤12
 case neg =>
  have RR:=hide (val_head (s:=(TStore.mk x0 x1 x2 x3 x4 x5 x6 x7 x8 x9 x10 x11 x12)) (by rw[head_mk,decide_eq_false hc3];simp))
  have d3:decide ((12:Int)<(x3.length:Int))=true:=by simp;omega
  exact rk18
 case pos =>
 have d3:decide ((12:Int)<(x3.length:Int))=false:=by simp;omega
 by_cases hc4:x4.size≤120
 case neg =>
  have RR:=hide (val_head (s:=(TStore.mk x0 x1 x2 x3 x4 x5 x6 x7 x8 x9 x10 x11 x12)) (by rw[head_mk,decide_eq_false hc4];simp))
  have d4:decide ((120:Int)<(x4.size:Int))=true:=by simp;omega
  exact rk18
 case pos =>
 have d4:decide ((120:Int)<(x4.size:Int))=false:=by simp;omega
 have hp:1≤x5∧x5≤(x4.size:Int)+1∨¬(1≤x5∧x5≤(x4.size:Int)+1):=Classical.em _
 by_cases hc5:1≤x5
 case neg =>
  have RR:=hide (val_head (s:=(TStore.mk x0 x1 x2 x3 x4 x5 x6 x7 x8 x9 x10 x11 x12)) (by rw[head_mk,decide_eq_false (show ¬(1≤x5∧x5≤(x4.size:Int)+1) by omega)];simp))
  have d5:decide (x5<1)=true:=by simp;omega
  exact rk18
 case pos =>
 have d5:decide (x5<1)=false:=by simp;omega
 by_cases hc6:x5≤(x4.size:Int)+1
 case neg =>
  have RR:=hide (val_head (s:=(TStore.mk x0 x1 x2 x3 x4 x5 x6 x7 x8 x9 x10 x11 x12)) (by rw[head_mk,decide_eq_false (show ¬(1≤x5∧x5≤(x4.size:Int)+1) by omega)];simp))
  have d6:decide ((x4.size:Int)+1<x5)=true:=by simp;omega
  exact rk18
 case pos =>
 have d6:decide ((x4.size:Int)+1<x5)=false:=by simp;omega
 by_cases hc7:x8.length≤40
 case neg =>
  have RR:=hide (val_head (s:=(TStore.mk x0 x1 x2 x3 x4 x5 x6 x7 x8 x9 x10 x11 x12)) (by rw[head_mk,decide_eq_false hc7];simp))
  have d7:decide ((40:Int)<(x8.length:Int))=true:=by simp;omega
  exact rk18
 case pos =>
 have d7:decide ((40:Int)<(x8.length:Int))=false:=by simp;omega
 clear hp
 go_enter Tryd.func9,Tryd.ntmps9
 have mkq:=True.intro
 repeat (any_goals ((first | clear mkq | go_quiet (fail));(try go_wp2_with (first | (go_at_call 20;refine (allNames_row x0 S _ _ _ (Row.bel bl HR0.out) (HT.out.on bl)).mono ?_;rintro e w8 ⟨rfl,hb8⟩;rw[HN.out];(have hz8:=hb8.sz;obtain⟨hk8_0,hf8_0,hl8_0,hn8_0⟩:=hb8.lay (w.heap.size))) | (go_at_call 21;refine (validRecords_row x1 S _ _ _ (Row.bel bl HR1.out) (HT.out.on bl)).mono ?_;rintro e w9 ⟨rfl,hb9⟩;rw[HRE.out];(have hz9:=hb9.sz;obtain⟨hk9_0,hf9_0,hl9_0,hn9_0⟩:=hb9.lay (w.heap.size)))))))
 have HRo8:=HR8
 go_loopw [61] (fun v wq=>∃m:Nat,v=.int .i64 m∧m≤x8.length∧Hid (∀j (hj:j<x8.length),j<m→actB (TStore.mk x0 x1 x2 x3 x4 x5 x6 x7 x8 x9 x10 x11 x12) x8[j]=true)∧Bel w wq∧Hid (StoreAt wq S w.heap.size (TStore.mk x0 x1 x2 x3 x4 x5 x6 x7 x8 x9 x10 x11 x12))) (fun v _=>x8.length - (intOf v).toNat)
 case atStart=>exact⟨0,rfl,by omega,fun j _ hj=>by omega,bl,hide (StoreAt.bel bl HS1.out)⟩
 case round =>
  obtain⟨m,rfl,m1,hm,hbw,hsw⟩:=hrel
  have hqz:=hsw.out.1
  obtain⟨A0,c0,A1,c1,A2,c2,A3,c3,A6,c6,A7,c7,A8,c8,hqx,e0,e1,e2,e3,e4,e5,e6,e7,e8,e9,e10,e11,e12,y0,y1,y2,y3,y4,y5,y6,y7,y8,y10,y11,y12⟩:=StoreAt.cells hsw.out
  have HR6:=hide y6
  have hlc6:=y6.1
  have hcm6:=y6.2.1
  simp only[List.length_map]at hlc6
  unfold maxLen at hcm6
  clear hqx y0 y1 y2 y3 y4 y5 y6 y7 y8 y10 y11 y12
  have hbr:Bel wr wr:=Bel.refl _
  have hqn:¬w.heap.size=wr.heap.size:=by omega
  by_cases h1:m<x8.length
  ·
   have hd:decide ((m:Int)<(x8.length:Int))=true:=by simp[h1]
   have hbz:=Bel.size hbw
   (obtain⟨b1,o1,x1_0,x1_1,hA1,hS1,hl1,hx1,hv1,g1_0,g1_1,c1_0,c1_1⟩:=TActive.at HRo8.out m h1;subst hA1;have HV1:=hide (Dat.HoldVals.bel hbw hv1);have hh1:=hbw.box b1 hl1;have hw1:=Nat.lt_of_lt_of_le hl1 (Bel.size hbw);replace c1_0:=(hh1 _).trans c1_0;replace c1_1:=(hh1 _).trans c1_1;have HX1:=hide hx1;clear hh1 hv1 hx1 hS1)
   have hne1:¬b1=wr.heap.size:=by omega
   have HAC:=hide (show actB (TStore.mk x0 x1 x2 x3 x4 x5 x6 x7 x8 x9 x10 x11 x12) x8[m]=(decide (0≤x1_0∧x1_0<(x0.length:Int))&&hasB (TStore.mk x0 x1 x2 x3 x4 x5 x6 x7 x8 x9 x10 x11 x12) x1_1 1) by rw[HX1.out,actB_has];rfl)
   have HSW:=hsw
   by_cases hr0:0≤x1_0
   case neg =>
    have dr:decide (x1_0<0)=true:=by simp;omega
    have RR:=hide (val_act (s:=(TStore.mk x0 x1 x2 x3 x4 x5 x6 x7 x8 x9 x10 x11 x12)) m h1 (HAC.out.trans (by rw[decide_eq_false (fun q:0≤x1_0∧x1_0<(x0.length:Int)=>hr0 q.1)];rfl)))
    clear hr0
    exact rk77
   case pos =>
   have dr:decide (x1_0<0)=false:=by simp;omega
   by_cases hr1:x1_0<(x0.length:Int)
   case neg =>
    have dr2:decide ((x0.length:Int)≤x1_0)=true:=by simp;omega
    have RR:=hide (val_act (s:=(TStore.mk x0 x1 x2 x3 x4 x5 x6 x7 x8 x9 x10 x11 x12)) m h1 (HAC.out.trans (by rw[decide_eq_false (fun q:0≤x1_0∧x1_0<(x0.length:Int)=>hr1 q.2)];rfl)))
    clear hr1
    exact rk77
   case pos =>
   have dr2:decide ((x0.length:Int)≤x1_0)=false:=by simp;omega
   have HAC2:=hide (HAC.out.trans (by rw[decide_eq_true (⟨hr0,hr1⟩:0≤x1_0∧x1_0<(x0.length:Int)),Bool.true_and]))
   clear hr0 hr1
   cases hh:hasB (TStore.mk x0 x1 x2 x3 x4 x5 x6 x7 x8 x9 x10 x11 x12) x1_1 1
   ·
    have HH:=hide hh
    have RR:=hide (val_act (s:=(TStore.mk x0 x1 x2 x3 x4 x5 x6 x7 x8 x9 x10 x11 x12)) m h1 (HAC2.out.trans hh))
    clear hh
    have mkq:=True.intro
    repeat (any_goals ((first | clear mkq | go_quiet (fail));(try go_wp2_with (go_at_call 22;refine (hasObject_any (TStore.mk x0 x1 x2 x3 x4 x5 x6 x7 x8 x9 x10 x11 x12) _ _ S w.heap.size _ (StoreAt.bel bl HSW.out)).mono ?_;rintro e w2 ⟨rfl,hb2⟩;rw[HH.out];(have hz2:=hb2.sz;obtain⟨hk2_0,hf2_0,hl2_0,hn2_0⟩:=hb2.lay (w.heap.size);obtain⟨hk2_1,hf2_1,hl2_1,hn2_1⟩:=hb2.lay (wr.heap.size))))))
    all_goals
     go_returns
     exact⟨ret_bl RR.out.symm,bl⟩
   ·
    have HH:=hide hh
    have HNW:=hide (HAC2.out.trans hh)
    clear hh
    have mkq:=True.intro
    repeat (any_goals ((first | clear mkq | go_quiet (fail));(try go_wp2_with (go_at_call 22;refine (hasObject_any (TStore.mk x0 x1 x2 x3 x4 x5 x6 x7 x8 x9 x10 x11 x12) _ _ S w.heap.size _ (StoreAt.bel bl HSW.out)).mono ?_;rintro e w2 ⟨rfl,hb2⟩;rw[HH.out];(have hz2:=hb2.sz;obtain⟨hk2_0,hf2_0,hl2_0,hn2_0⟩:=hb2.lay (w.heap.size);obtain⟨hk2_1,hf2_1,hl2_1,hn2_1⟩:=hb2.lay (wr.heap.size))))))
    exact rk193
  have hd:decide ((m:Int)<(x8.length:Int))=false:=by simp[h1]
  have HP_act:=hide (show ∀j (hj:j<x8.length),j<x8.length→actB (TStore.mk x0 x1 x2 x3 x4 x5 x6 x7 x8 x9 x10 x11 x12) x8[j]=true from fun j hj _=>hm.out j hj (by omega))
  clear hm
  have HRo6:=HR6
  go_wp2_with (fail)
  repeat (any_goals (go_quiet (fail);(try go_wp2_with (fail))))
  go_loopw [86] (fun v wq=>∃m:Nat,v=.int .i64 m∧m≤x6.length∧Hid (∀j (hj:j<x6.length),j<m→x6[j].size≤120)∧Bel w wq∧Hid (StoreAt wq S w.heap.size (TStore.mk x0 x1 x2 x3 x4 x5 x6 x7 x8 x9 x10 x11 x12))∧Bel wr wq) (fun v _=>x6.length - (intOf v).toNat)
  case atStart=>exact⟨0,rfl,by omega,fun j _ hj=>by omega,bl,hide (StoreAt.bel bl hsw.out),bl⟩
  case round =>
   obtain⟨m,rfl,m1,hm,hbw,hsw,hbo⟩:=hrel
   have hqz:=hsw.out.1
   obtain⟨A0,c0,A1,c1,A2,c2,A3,c3,A6,c6,A7,c7,A8,c8,hqx,e0,e1,e2,e3,e4,e5,e6,e7,e8,e9,e10,e11,e12,y0,y1,y2,y3,y4,y5,y6,y7,y8,y10,y11,y12⟩:=StoreAt.cells hsw.out
   have HR2:=hide y2
   have hlc2:=y2.1
   have hcm2:=y2.2.1
   simp only[List.length_map]at hlc2
   unfold maxLen at hcm2
   have HR3:=hide y3
   have hlc3:=y3.1
   have hcm3:=y3.2.1
   simp only[List.length_map]at hlc3
   unfold maxLen at hcm3
   clear hqx y0 y1 y2 y3 y4 y5 y6 y7 y8 y10 y11 y12
   have hbr:Bel wr wr:=Bel.refl _
   have hqn:¬w.heap.size=wr.heap.size:=by omega
   by_cases h1:m<x6.length
   ·
    have hd:decide ((m:Int)<(x6.length:Int))=true:=by simp[h1]
    obtain⟨b1,o1,hA1,hS1,hl1,hz1,c1x⟩:=strAt HRo6.out m h1
    subst hA1
    replace c1x:=(hbo.box b1 hl1 _).trans c1x
    have hbz3:=Bel.size hbo
    unfold maxLen at hz1
    by_cases h2:x6[m].size≤120
    ·
     have hd2:decide ((120:Int)<(x6[m].size:Int))=false:=by simp;omega
     go_wp2_with (fail)
     repeat (any_goals (go_quiet (fail);(try go_wp2_with (fail))))
     go_roundw
     case rel=>exact⟨m+1,by go_num,by omega,fun j hj hjm=>by
      by_cases e:j=m
      ·
       subst e;exact h2
      ·
       exact hm.out j hj (by omega),bl,hide (StoreAt.bel bl hsw.out),bl⟩
     case measure=>simp[intOf];omega
    ·
     have hd2:decide ((120:Int)<(x6[m].size:Int))=true:=by simp;omega
     have RR:=hide (val_out (s:=(TStore.mk x0 x1 x2 x3 x4 x5 x6 x7 x8 x9 x10 x11 x12)) m h1 (by show 120<x6[m].size;omega))
     exact rk77
   have hd:decide ((m:Int)<(x6.length:Int))=false:=by simp[h1]
   have HP_out:=hide (show ∀j (hj:j<x6.length),j<x6.length→x6[j].size≤120 from fun j hj _=>hm.out j hj (by omega))
   clear hm
   by_cases hk0:0≤x11
   case neg =>
    have RR:=hide (val_head (s:=(TStore.mk x0 x1 x2 x3 x4 x5 x6 x7 x8 x9 x10 x11 x12)) (by rw[head_mk,decide_eq_false (show ¬(0≤x11∧x11≤4000) by omega)];simp))
    have dk0:decide (x11<0)=true:=by simp;omega
    exact rk77
   case pos =>
   have dk0:decide (x11<0)=false:=by simp;omega
   by_cases hk1:x11≤4000
   case neg =>
    have RR:=hide (val_head (s:=(TStore.mk x0 x1 x2 x3 x4 x5 x6 x7 x8 x9 x10 x11 x12)) (by rw[head_mk,decide_eq_false (show ¬(0≤x11∧x11≤4000) by omega)];simp))
    have dk1:decide (4000<x11)=true:=by simp;omega
    exact rk77
   case pos =>
   have dk1:decide (4000<x11)=false:=by simp;omega
   by_cases hk2:0≤x10
   case neg =>
    have RR:=hide (val_head (s:=(TStore.mk x0 x1 x2 x3 x4 x5 x6 x7 x8 x9 x10 x11 x12)) (by rw[head_mk,decide_eq_false (show ¬(0≤x10∧x10≤x11) by omega)];simp))
    have dk2:decide (x10<0)=true:=by simp;omega
    exact rk77
   case pos =>
   have dk2:decide (x10<0)=false:=by simp;omega
   by_cases hk3:x10≤x11
   case neg =>
    have RR:=hide (val_head (s:=(TStore.mk x0 x1 x2 x3 x4 x5 x6 x7 x8 x9 x10 x11 x12)) (by rw[head_mk,decide_eq_false (show ¬(0≤x10∧x10≤x11) by omega)];simp))
    have dk3:decide (x11<x10)=true:=by simp;omega
    exact rk77
   case pos =>
   have dk3:decide (x11<x10)=false:=by simp;omega
   by_cases hk4:0≤x12
   case neg =>
    have RR:=hide (val_head (s:=(TStore.mk x0 x1 x2 x3 x4 x5 x6 x7 x8 x9 x10 x11 x12)) (by rw[head_mk,decide_eq_false (show ¬0≤x12 by omega)];simp))
    have dk4:decide (x12<0)=true:=by simp;omega
    exact rk77
   case pos =>
   have dk4:decide (x12<0)=false:=by simp;omega
   have h8r:x1.length≤8:=by have:=HH2.out;rw[Bool.and_eq_true,decide_eq_true_eq]at this;exact this.2
   have HHD:=hide (show headB (TStore.mk x0 x1 x2 x3 x4 x5 x6 x7 x8 x9 x10 x11 x12)=true by rw[head_mk,HH1.out];simp only[Bool.and_eq_true,decide_eq_true_eq];(repeat' apply And.intro) <;> first | rfl | trivial | omega)
   have HSW:=hsw
   cases hg:allB (TStore.mk x0 x1 x2 x3 x4 x5 x6 x7 x8 x9 x10 x11 x12) x3
   ·
    have HG:=hide hg
    have RR:=hide (val_glo (s:=(TStore.mk x0 x1 x2 x3 x4 x5 x6 x7 x8 x9 x10 x11 x12)) hg)
    clear hg
    have mkq:=True.intro
    repeat (any_goals ((first | clear mkq | go_quiet (fail));(try go_wp2_with (go_at_call 23;refine (implAll_any (TStore.mk x0 x1 x2 x3 x4 x5 x6 x7 x8 x9 x10 x11 x12) x3 S S w.heap.size _ _ _ (StoreAt.bel bl HSW.out) (Row.bel bl HR3.out)).mono ?_;rintro e wg ⟨rfl,hbg⟩;rw[HG.out];(have hzg:=hbg.sz;obtain⟨hkg_0,hfg_0,hlg_0,hng_0⟩:=hbg.lay (w.heap.size))))))
    all_goals
     go_returns
     exact⟨ret_bl RR.out.symm,bl⟩
   have HG:=hide hg
   clear hg
   have hmm:=@run_makeMap Tryd.prog
   have mkq:=True.intro
   repeat (any_goals ((first | clear mkq | go_quiet (fail));(try go_wp2_with (go_at_call 23;refine (implAll_any (TStore.mk x0 x1 x2 x3 x4 x5 x6 x7 x8 x9 x10 x11 x12) x3 S S w.heap.size _ _ _ (StoreAt.bel bl HSW.out) (Row.bel bl HR3.out)).mono ?_;rintro e wg ⟨rfl,hbg⟩;rw[HG.out];(have hzg:=hbg.sz;obtain⟨hkg_0,hfg_0,hlg_0,hng_0⟩:=hbg.lay (w.heap.size))))))
   clear hmm
   have HSG:=hide (StoreAt.bel (show Bel wr wg from bl) hsw.out)
   have hzg:=HSG.out.1
   have hbwg:Bel w wg:=bl
   have hbrg:Bel wr wg:=bl
   have HRo2:=HR2
   go_loopw [129] (fun v wr3=>∃m:Nat,∃D:DataW Unit,v=.int .i64 m∧m≤x2.length∧Hid (∀j (hj:j<x2.length),j<m→objB (TStore.mk x0 x1 x2 x3 x4 x5 x6 x7 x8 x9 x10 x11 x12) x2[j]=true∧∀k (hk:k<j),x2[j].serial=0∨(x2[k]'(by omega)).serial≠x2[j].serial)∧Hid (wr3.ownsMap Tryd.prog 3 (plainElem Tryd.prog 4) wg.heap.size m D)∧Hid (Seen x2 m D)∧Bel wg wr3∧wg.heap.size<wr3.heap.size) (fun v _=>x2.length - (intOf v).toNat)
   case atStart=>exact⟨0,.map [],rfl,by omega,fun j _ hj=>by omega,World.ownsMap_made _ _ _ _,Seen.zero _,bl,by simp⟩
   case round =>
    obtain⟨m,D,rfl,m1,hm,hown,hseen,hbg3,hz3⟩:=hrel
    have hbw3:Bel w wr:=Bel.trans hbwg hbg3
    have hsw:=hide (StoreAt.bel hbg3 HSG.out)
    have hbo2:=Bel.trans hbrg hbg3
    have hbz2:=Bel.size hbo2
    have hqz:=hsw.out.1
    obtain⟨A0,c0,A1,c1,A2,c2,A3,c3,A6,c6,A7,c7,A8,c8,hqx,e0,e1,e2,e3,e4,e5,e6,e7,e8,e9,e10,e11,e12,y0,y1,y2,y3,y4,y5,y6,y7,y8,y10,y11,y12⟩:=StoreAt.cells hsw.out
    clear hqx y0 y1 y2 y3 y4 y5 y6 y7 y8 y10 y11 y12
    have hbr:Bel wr wr:=Bel.refl _
    have hqn:¬w.heap.size=wr.heap.size:=by omega
    by_cases h1:m<x2.length
    ·
     have hd:decide ((m:Int)<(x2.length:Int))=true:=by simp[h1]
     (obtain⟨b1,o1,x1_0,x1_1,x1_2,x1_3,x1_4,A1_3,C1_3,A1_4,C1_4,hA1,hS1,hl1,hx1,hv1,g1_0,g1_1,g1_2,g1_3,g1_4,c1_0,c1_1,c1_2,c1_3,c1_4⟩:=TObject.at HRo2.out m h1;subst hA1;have HV1:=hide (Dat.HoldVals.bel hbo2 hv1);have hh1:=hbo2.box b1 hl1;have hw1:=Nat.lt_of_lt_of_le hl1 (Bel.size hbo2);replace c1_0:=(hh1 _).trans c1_0;replace c1_1:=(hh1 _).trans c1_1;replace c1_2:=(hh1 _).trans c1_2;replace c1_3:=(hh1 _).trans c1_3;replace c1_4:=(hh1 _).trans c1_4;have HX1:=hide hx1;have GR1_3:=hide g1_3;have GR1_4:=hide g1_4;clear hh1 hv1 hx1 hS1 g1_3 g1_4)
     have hne1:¬b1=wr.heap.size:=by omega
     have hlk:=GR1_3.out.1
     have hlm:=GR1_3.out.2.1
     have hlk4:=GR1_4.out.1
     have hlm4:=GR1_4.out.2.1
     have HSX:=hsw
     have HSE:=hide (show x2[m].serial=x1_2 by rw[HX1.out];rfl)
     cases ho:objB (TStore.mk x0 x1 x2 x3 x4 x5 x6 x7 x8 x9 x10 x11 x12) x2[m]
     ·
      have HO:=hide ho
      have RR:=hide (val_obj (s:=(TStore.mk x0 x1 x2 x3 x4 x5 x6 x7 x8 x9 x10 x11 x12)) m h1 ho)
      clear ho
      have mkq:=True.intro
      repeat (any_goals ((first | clear mkq | go_quiet (fail));(try go_wp2_with (go_at_call 24;refine (implObj_any (TStore.mk x0 x1 x2 x3 x4 x5 x6 x7 x8 x9 x10 x11 x12) x2[m] S S w.heap.size _ _ (StoreAt.bel bl HSX.out) (Dat.HoldVals.bel bl HV1.out)).mono ?_;rintro e wo ⟨rfl,hbo⟩;rw[HO.out];(have hzo:=hbo.sz;obtain⟨hko_0,hfo_0,hlo_0,hno_0⟩:=hbo.lay (w.heap.size);obtain⟨hko_1,hfo_1,hlo_1,hno_1⟩:=hbo.lay (wr.heap.size);obtain⟨hko_2,hfo_2,hlo_2,hno_2⟩:=hbo.lay (b1))))))
      all_goals
       go_returns
       exact⟨ret_bl RR.out.symm,bl⟩
     have HO:=hide ho
     clear ho
     have hwk:=wf_of_inI g1_2
     have HK:=hide (keyOf_int_mk (P:=Tryd.prog) Tryd.underlying3 hwk)
     by_cases hs0:x1_2=0
     ·
      have fs:(x1_2 != 0)=false:=by simp[hs0]
      have HS0:=hide (HSE.out.trans hs0)
      clear hs0
      have mkq:=True.intro
      repeat (any_goals ((first | clear mkq | go_quiet (fail));(try go_wp2_with (go_at_call 24;refine (implObj_any (TStore.mk x0 x1 x2 x3 x4 x5 x6 x7 x8 x9 x10 x11 x12) x2[m] S S w.heap.size _ _ (StoreAt.bel bl HSX.out) (Dat.HoldVals.bel bl HV1.out)).mono ?_;rintro e wo ⟨rfl,hbo⟩;rw[HO.out];(have hzo:=hbo.sz;obtain⟨hko_0,hfo_0,hlo_0,hno_0⟩:=hbo.lay (w.heap.size);obtain⟨hko_1,hfo_1,hlo_1,hno_1⟩:=hbo.lay (wr.heap.size);obtain⟨hko_2,hfo_2,hlo_2,hno_2⟩:=hbo.lay (b1))))))
      have hzo:=hbo.size
      simp only[World.size_alloc]at hzo
      go_roundw
      case rel=>exact⟨m+1,_,by go_num,by omega,fun j hj hjm=>by
       by_cases e:j=m
       ·
        subst e;exact⟨HO.out,fun k hk=>Or.inl HS0.out⟩
       ·
        exact hm.out j hj (by omega),(ownsMap_bel hown.out bl).mono (by omega),hseen.out.skip h1 HS0.out,bl,by omega⟩
      case measure=>simp[intOf];omega
     ·
      have fs:(x1_2 != 0)=true:=by simp[hs0]
      have HNZ:=hide (show x2[m].serial≠0 by rw[HSE.out];exact hs0)
      clear hs0
      have HAT:=hide (hseen.out.2 x1_2 g1_2)
      have HSA:=hide (seen_any (l:=x2) (m:=m) (n:=x1_2) (by rw[←HSE.out];exact HNZ.out))
      generalize hcb:((x2.take m).any fun o=>decide (o.serial=x1_2)&&decide (x1_2≠0))=cb at HAT HSA
      clear hcb
      cases cb
      ·
       go_wp2_with (first | (go_at_call 24;refine (implObj_any (TStore.mk x0 x1 x2 x3 x4 x5 x6 x7 x8 x9 x10 x11 x12) x2[m] S S w.heap.size _ _ (StoreAt.bel bl HSX.out) (Dat.HoldVals.bel bl HV1.out)).mono ?_;rintro e wo ⟨rfl,hbo⟩;rw[HO.out];(have hzo:=hbo.sz;obtain⟨hko_0,hfo_0,hlo_0,hno_0⟩:=hbo.lay (w.heap.size);obtain⟨hko_1,hfo_1,hlo_1,hno_1⟩:=hbo.lay (wr.heap.size);obtain⟨hko_2,hfo_2,hlo_2,hno_2⟩:=hbo.lay (b1))) | ((at_lookup;refine wpList_lookup_own_bool _ rfl _ _ 56 rfl 3 4 keyInt Tryd.underlying56 Tryd.underlying4 (zeroBool _) wg.heap.size m D rfl (ownsMap_bel hown.out bl) _ _ rfl HK.out ?_;intro c hat);obtain rfl:c=false:=(by have:=HAT.out.symm.trans hat;simpa using this.symm);clear hat) | (at_mapUpdate;refine wpList_mapUpdate_own _ rfl _ _ _ 56 rfl 3 4 keyInt Tryd.underlying56 _ wg.heap.size m D rfl (ownsMap_bel hown.out bl) (by unfold maxLen;omega) _ _ _ rfl rfl HK.out _ [] (plainElem_bool Tryd.underlying4 true) ?_;intro w1 hown1 hgrow1))
       have hb9:Bel wg w1:=Below.grown (show Bel wg wo from bl) hgrow1 (by have:=hbo.size;simp at this ⊢;omega) (fun x hx=>by cases hx;exact Nat.le_refl _)
       have hzo:=hbo.size
       simp only[World.size_alloc]at hzo
       have hz9:=hgrow1.size
       go_roundw
       case rel=>exact⟨m+1,_,by go_num,by omega,fun j hj hjm=>by
        by_cases e:j=m
        ·
         subst e;exact⟨HO.out,fun k hk=>Or.inr (fun e=>absurd (HSA.out.2 ⟨k,by omega,hk,e.trans HSE.out⟩) (by simp))⟩
        ·
         exact hm.out j hj (by omega),hown1,(by have:=hseen.out.put h1 HNZ.out (by rw[HSE.out];exact g1_2);rw[HSE.out]at this;exact this),hb9,by omega⟩
       case measure=>simp[intOf];omega
      ·
       obtain⟨k,hk1,hk2,hk3⟩:=HSA.out.1 rfl
       have RR:=hide (val_ser (s:=(TStore.mk x0 x1 x2 x3 x4 x5 x6 x7 x8 x9 x10 x11 x12)) (ser_no m k (by simpa[TStore.objects_mk]using h1) hk2 (by simp only[TStore.objects_mk,List.getElem_map];exact HNZ.out) (by simp only[TStore.objects_mk,List.getElem_map];rw[HSE.out];exact hk3)))
       clear hk1 hk2 hk3
       have mkq:=True.intro
       repeat (any_goals ((first | clear mkq | go_quiet (fail));(try go_wp2_with (first | (go_at_call 24;refine (implObj_any (TStore.mk x0 x1 x2 x3 x4 x5 x6 x7 x8 x9 x10 x11 x12) x2[m] S S w.heap.size _ _ (StoreAt.bel bl HSX.out) (Dat.HoldVals.bel bl HV1.out)).mono ?_;rintro e wo ⟨rfl,hbo⟩;rw[HO.out];(have hzo:=hbo.sz;obtain⟨hko_0,hfo_0,hlo_0,hno_0⟩:=hbo.lay (w.heap.size);obtain⟨hko_1,hfo_1,hlo_1,hno_1⟩:=hbo.lay (wr.heap.size);obtain⟨hko_2,hfo_2,hlo_2,hno_2⟩:=hbo.lay (b1))) | ((at_lookup;refine wpList_lookup_own_bool _ rfl _ _ 56 rfl 3 4 keyInt Tryd.underlying56 Tryd.underlying4 (zeroBool _) wg.heap.size m D rfl (ownsMap_bel hown.out bl) _ _ rfl HK.out ?_;intro c hat);obtain rfl:c=true:=(by have:=HAT.out.symm.trans hat;simpa using this.symm);clear hat) | (at_mapUpdate;refine wpList_mapUpdate_own _ rfl _ _ _ 56 rfl 3 4 keyInt Tryd.underlying56 _ wg.heap.size m D rfl (ownsMap_bel hown.out bl) (by unfold maxLen;omega) _ _ _ rfl rfl HK.out _ [] (plainElem_bool Tryd.underlying4 true) ?_;intro w1 hown1 hgrow1)))))
       all_goals
        go_returns
        exact⟨ret_bl RR.out.symm,bl⟩
    ·
     have hd:decide ((m:Int)<(x2.length:Int))=false:=by simp[h1]
     have RR:=hide (val_yes (s:=(TStore.mk x0 x1 x2 x3 x4 x5 x6 x7 x8 x9 x10 x11 x12)) HHD.out (fun j hj=>by have:=HH2.out;rw[Bool.and_eq_true]at this;exact List.all_eq_true.1 this.1 _ (List.getElem_mem hj)) (fun j hj=>HP_out.out j hj hj) (fun j hj=>HP_act.out j hj hj) (fun j hj=>(hm.out j hj (Nat.lt_of_lt_of_le hj (by show x2.length≤m;omega))).1) (ser_of fun a ha b hb=>by simp only[List.getElem_map];exact (hm.out a (by simpa[TStore.objects_mk]using ha) (Nat.lt_of_lt_of_le (by simpa[TStore.objects_mk]using ha) (by omega))).2 b hb) HG.out)
     go_wp2_with (fail)
     repeat (any_goals (go_quiet (fail);(try go_wp2_with (fail))))
     all_goals
      go_returns
      exact⟨ret_bl RR.out.symm,bl⟩
end Go.Proofs.YtoikhhnmbbbjjaaDoor
