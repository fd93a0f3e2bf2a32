/- The program: pattern objects. -/
import Derived.Test.YtoikhhnmbbbjjaaDoorPr
import Derived.Test.YtoikhhnmbbbjjaaDoorPS3z
namespace Go.Proofs.YtoikhhnmbbbjjaaDoor
set_option linter.unusedVariables false
set_option linter.unusedSimpArgs false
set_option maxRecDepth 100000
open Go.RowKit
--%quiet
set_option maxHeartbeats 4000000 in
theorem implPat_len_10 (s:TStore) (its:List TValue) (h:its.length≠1):PatI s 10 its:=by
 intro S S' q w Ai ci hs hR
 have HS:=hide hs
 have hq:=hs.1
 have hqn:¬q=w.heap.size:=by omega
 have HR:=hide hR
 have hlen:=hR.1
 have hcm:=hR.2.1
 simp only[List.length_map,List.length_cons,List.length_nil,Nat.reduceAdd]at hlen
 unfold maxLen at hcm
 clear hR hs
 have RR:=hide (patB_len (s:=s) (op:=10) (its:=its) (by rw[show (patKinds 10).length=1 by decide];omega))
 have f1:((its.length:Int) != 1)=true:=by rw[bne_iff_ne];omega
 exact rk16
set_option maxHeartbeats 4000000 in
theorem implPat_10 (s:TStore) (a:TValue):PatI s 10 [a]:=by
 intro S S' q w Ai ci hs hR
 have HS:=hide hs
 have hq:=hs.1
 have hqn:¬q=w.heap.size:=by omega
 have HR:=hide hR
 have hlen:=hR.1
 have hcm:=hR.2.1
 simp only[List.length_map,List.length_cons,List.length_nil,Nat.reduceAdd]at hlen
 unfold maxLen at hcm
 clear hR hs
 have hbw0:Bel w w:=Bel.refl w
 (obtain⟨b1,o1,x1_0,x1_1,x1_2,x1_3,x1_4,x1_5,hA1,hS1,hl1,hx1,hv1,g1_0,g1_1,g1_2,g1_3,g1_4,g1_5,c1_0,c1_1,c1_2,c1_3,c1_4,c1_5⟩:=TValue.at HR.out 0 (by simp);subst hA1;have HV1:=hide (Dat.HoldVals.bel hbw0 hv1);have hh1:=hbw0.box b1 hl1;have hw1:=Nat.lt_of_lt_of_le hl1 (Bel.size hbw0);replace c1_0:=(hh1 _).trans c1_0;replace c1_1:=(hh1 _).trans c1_1;replace c1_2:=(hh1 _).trans c1_2;replace c1_3:=(hh1 _).trans c1_3;replace c1_4:=(hh1 _).trans c1_4;replace c1_5:=(hh1 _).trans c1_5;have HX1:=hide hx1;clear hh1 hv1 hx1 hS1;simp only[Nat.zero_mul,Nat.one_mul,Nat.add_zero,Nat.reduceMul,Nat.add_assoc,Nat.reduceAdd]at c1_0 c1_1 c1_2 c1_3 c1_4 c1_5)
 have hne1:¬b1=w.heap.size:=by omega
 have hne2:¬b1=w.heap.size+1:=by omega
 have HP:Hid (patB s 10 [a]=(chkP s 3 ⟨x1_0,x1_1,x1_2,x1_3,x1_4,x1_5⟩)):=by
  show _=_
  unfold patB;rw[show patKinds 10=[3] by decide]
  exact rk107
 clear hbw0
 go_enter Tryd.func47,Tryd.ntmps47
 go_wp2_with (fail)
 repeat (any_goals (go_quiet (fail);(try go_wp2_with (fail))))
 go_loopw [80] (fun v wr=>∃m:Nat,v=.int .i64 m∧m≤1∧Hid ((1≤m→Hid (chkP s 3 ⟨x1_0,x1_1,x1_2,x1_3,x1_4,x1_5⟩=true)))∧Bel ((w.alloc (.cells #[] 3)).alloc (.cells #[.int .i64 3] 3)) wr) (fun v _=>1 - (intOf v).toNat)
 case atStart=>exact⟨0,rfl,by omega,fun h=>absurd h (by omega),bl⟩
 case round =>
  obtain⟨m,rfl,m1,hm,hbx⟩:=hrel
  have hbw:Bel w wr:=Bel.trans bl hbx
  have hz:=hbx.size
  simp only[World.size_alloc]at hz
  have hcb0:=hbw.box b1 (by omega)
  have hk0:=hbx.box (w.heap.size+1) (by simp)
  by_cases e0:m=0
  ·
   subst e0
   cases hi:inB s ⟨x1_0,x1_1,x1_2,x1_3,x1_4,x1_5⟩
   ·
    by_cases hk:x1_0=3
    ·
     have fk:(x1_0 != 3)=false:=by simp[hk]
     exact rk97
    ·
     have fk:(x1_0 != 3)=true:=by simp[hk]
     exact rk97
   ·
    by_cases hk:x1_0=3
    ·
     have fk:(x1_0 != 3)=false:=by simp[hk]
     have HC:=hide (show chkP s 3 ⟨x1_0,x1_1,x1_2,x1_3,x1_4,x1_5⟩=true by unfold chkP;rw[hi];simp[hk])
     exact rk70
    ·
     have fk:(x1_0 != 3)=true:=by simp[hk]
     exact rk97
  obtain rfl:m=1:=by omega
  have HC0:=hm.out (by omega)
  have RR:=hide (show patB s 10 [a]=true by rw[HP.out,HC0.out];first | done | rfl)
  exact rk77
set_option maxHeartbeats 4000000 in
theorem implPat_len_11 (s:TStore) (its:List TValue) (h:its.length≠0):PatI s 11 its:=by
 intro S S' q w Ai ci hs hR
 have HS:=hide hs
 have hq:=hs.1
 have hqn:¬q=w.heap.size:=by omega
 have HR:=hide hR
 have hlen:=hR.1
 have hcm:=hR.2.1
 simp only[List.length_map,List.length_cons,List.length_nil,Nat.reduceAdd]at hlen
 unfold maxLen at hcm
 clear hR hs
 have RR:=hide (patB_len (s:=s) (op:=11) (its:=its) (by rw[show (patKinds 11).length=0 by decide];omega))
 have f1:((its.length:Int) != 0)=true:=by rw[bne_iff_ne];omega
 exact rk16
set_option maxHeartbeats 4000000 in
theorem implPat_11 (s:TStore):PatI s 11 []:=by
 intro S S' q w Ai ci hs hR
 have HS:=hide hs
 have hq:=hs.1
 have hqn:¬q=w.heap.size:=by omega
 have HR:=hide hR
 have hlen:=hR.1
 have hcm:=hR.2.1
 simp only[List.length_map,List.length_cons,List.length_nil,Nat.reduceAdd]at hlen
 unfold maxLen at hcm
 clear hR hs
 have hbw0:Bel w w:=Bel.refl w
 have HP:Hid (patB s 11 []=(true)):=by
  show _=_
  unfold patB;rw[show patKinds 11=[] by decide]
  simp[all2]
 exact rk23
set_option maxHeartbeats 4000000 in
theorem implPat_len_12 (s:TStore) (its:List TValue) (h:its.length≠0):PatI s 12 its:=by
 intro S S' q w Ai ci hs hR
 have HS:=hide hs
 have hq:=hs.1
 have hqn:¬q=w.heap.size:=by omega
 have HR:=hide hR
 have hlen:=hR.1
 have hcm:=hR.2.1
 simp only[List.length_map,List.length_cons,List.length_nil,Nat.reduceAdd]at hlen
 unfold maxLen at hcm
 clear hR hs
 have RR:=hide (patB_len (s:=s) (op:=12) (its:=its) (by rw[show (patKinds 12).length=0 by decide];omega))
 have f1:((its.length:Int) != 0)=true:=by rw[bne_iff_ne];omega
 exact rk16
set_option maxHeartbeats 4000000 in
theorem implPat_12 (s:TStore):PatI s 12 []:=by
 intro S S' q w Ai ci hs hR
 have HS:=hide hs
 have hq:=hs.1
 have hqn:¬q=w.heap.size:=by omega
 have HR:=hide hR
 have hlen:=hR.1
 have hcm:=hR.2.1
 simp only[List.length_map,List.length_cons,List.length_nil,Nat.reduceAdd]at hlen
 unfold maxLen at hcm
 clear hR hs
 have hbw0:Bel w w:=Bel.refl w
 have HP:Hid (patB s 12 []=(true)):=by
  show _=_
  unfold patB;rw[show patKinds 12=[] by decide]
  simp[all2]
 exact rk23
set_option maxHeartbeats 4000000 in
theorem implPat_len_13 (s:TStore) (its:List TValue) (h:its.length≠1):PatI s 13 its:=by
 intro S S' q w Ai ci hs hR
 have HS:=hide hs
 have hq:=hs.1
 have hqn:¬q=w.heap.size:=by omega
 have HR:=hide hR
 have hlen:=hR.1
 have hcm:=hR.2.1
 simp only[List.length_map,List.length_cons,List.length_nil,Nat.reduceAdd]at hlen
 unfold maxLen at hcm
 clear hR hs
 have RR:=hide (patB_len (s:=s) (op:=13) (its:=its) (by rw[show (patKinds 13).length=1 by decide];omega))
 have f1:((its.length:Int) != 1)=true:=by rw[bne_iff_ne];omega
 exact rk16
set_option maxHeartbeats 4000000 in
theorem implPat_13 (s:TStore) (a:TValue):PatI s 13 [a]:=by
 intro S S' q w Ai ci hs hR
 have HS:=hide hs
 have hq:=hs.1
 have hqn:¬q=w.heap.size:=by omega
 have HR:=hide hR
 have hlen:=hR.1
 have hcm:=hR.2.1
 simp only[List.length_map,List.length_cons,List.length_nil,Nat.reduceAdd]at hlen
 unfold maxLen at hcm
 clear hR hs
 have hbw0:Bel w w:=Bel.refl w
 (obtain⟨b1,o1,x1_0,x1_1,x1_2,x1_3,x1_4,x1_5,hA1,hS1,hl1,hx1,hv1,g1_0,g1_1,g1_2,g1_3,g1_4,g1_5,c1_0,c1_1,c1_2,c1_3,c1_4,c1_5⟩:=TValue.at HR.out 0 (by simp);subst hA1;have HV1:=hide (Dat.HoldVals.bel hbw0 hv1);have hh1:=hbw0.box b1 hl1;have hw1:=Nat.lt_of_lt_of_le hl1 (Bel.size hbw0);replace c1_0:=(hh1 _).trans c1_0;replace c1_1:=(hh1 _).trans c1_1;replace c1_2:=(hh1 _).trans c1_2;replace c1_3:=(hh1 _).trans c1_3;replace c1_4:=(hh1 _).trans c1_4;replace c1_5:=(hh1 _).trans c1_5;have HX1:=hide hx1;clear hh1 hv1 hx1 hS1;simp only[Nat.zero_mul,Nat.one_mul,Nat.add_zero,Nat.reduceMul,Nat.add_assoc,Nat.reduceAdd]at c1_0 c1_1 c1_2 c1_3 c1_4 c1_5)
 have hne1:¬b1=w.heap.size:=by omega
 have hne2:¬b1=w.heap.size+1:=by omega
 have HP:Hid (patB s 13 [a]=(chkP s 12 ⟨x1_0,x1_1,x1_2,x1_3,x1_4,x1_5⟩)):=by
  show _=_
  unfold patB;rw[show patKinds 13=[12] by decide]
  exact rk107
 clear hbw0
 go_enter Tryd.func47,Tryd.ntmps47
 go_wp2_with (fail)
 repeat (any_goals (go_quiet (fail);(try go_wp2_with (fail))))
 go_loopw [80] (fun v wr=>∃m:Nat,v=.int .i64 m∧m≤1∧Hid ((1≤m→Hid (chkP s 12 ⟨x1_0,x1_1,x1_2,x1_3,x1_4,x1_5⟩=true)))∧Bel ((w.alloc (.cells #[] 3)).alloc (.cells #[.int .i64 12] 3)) wr) (fun v _=>1 - (intOf v).toNat)
 case atStart=>exact⟨0,rfl,by omega,fun h=>absurd h (by omega),bl⟩
 case round =>
  obtain⟨m,rfl,m1,hm,hbx⟩:=hrel
  have hbw:Bel w wr:=Bel.trans bl hbx
  have hz:=hbx.size
  simp only[World.size_alloc]at hz
  have hcb0:=hbw.box b1 (by omega)
  have hk0:=hbx.box (w.heap.size+1) (by simp)
  by_cases e0:m=0
  ·
   subst e0
   cases hi:inB s ⟨x1_0,x1_1,x1_2,x1_3,x1_4,x1_5⟩
   ·
    by_cases hk:x1_0=12
    ·
     have fk:(x1_0 != 12)=false:=by simp[hk]
     exact rk96
    ·
     have fk:(x1_0 != 12)=true:=by simp[hk]
     exact rk96
   ·
    by_cases hk:x1_0=12
    ·
     have fk:(x1_0 != 12)=false:=by simp[hk]
     have HC:=hide (show chkP s 12 ⟨x1_0,x1_1,x1_2,x1_3,x1_4,x1_5⟩=true by unfold chkP;rw[hi];simp[hk])
     exact rk70
    ·
     have fk:(x1_0 != 12)=true:=by simp[hk]
     exact rk96
  obtain rfl:m=1:=by omega
  have HC0:=hm.out (by omega)
  have RR:=hide (show patB s 13 [a]=true by rw[HP.out,HC0.out];first | done | rfl)
  exact rk77
set_option maxHeartbeats 4000000 in
theorem implPat_len_14 (s:TStore) (its:List TValue) (h:its.length≠2):PatI s 14 its:=by
 intro S S' q w Ai ci hs hR
 have HS:=hide hs
 have hq:=hs.1
 have hqn:¬q=w.heap.size:=by omega
 have HR:=hide hR
 have hlen:=hR.1
 have hcm:=hR.2.1
 simp only[List.length_map,List.length_cons,List.length_nil,Nat.reduceAdd]at hlen
 unfold maxLen at hcm
 clear hR hs
 have RR:=hide (patB_len (s:=s) (op:=14) (its:=its) (by rw[show (patKinds 14).length=2 by decide];omega))
 have f1:((its.length:Int) != 2)=true:=by rw[bne_iff_ne];omega
 exact rk16
set_option maxHeartbeats 4000000 in
theorem implPat_14 (s:TStore) (a:TValue) (b:TValue):PatI s 14 [a,b]:=by
 intro S S' q w Ai ci hs hR
 have HS:=hide hs
 have hq:=hs.1
 have hqn:¬q=w.heap.size:=by omega
 have HR:=hide hR
 have hlen:=hR.1
 have hcm:=hR.2.1
 simp only[List.length_map,List.length_cons,List.length_nil,Nat.reduceAdd]at hlen
 unfold maxLen at hcm
 clear hR hs
 have hbw0:Bel w w:=Bel.refl w
 (obtain⟨b1,o1,x1_0,x1_1,x1_2,x1_3,x1_4,x1_5,hA1,hS1,hl1,hx1,hv1,g1_0,g1_1,g1_2,g1_3,g1_4,g1_5,c1_0,c1_1,c1_2,c1_3,c1_4,c1_5⟩:=TValue.at HR.out 0 (by simp);subst hA1;have HV1:=hide (Dat.HoldVals.bel hbw0 hv1);have hh1:=hbw0.box b1 hl1;have hw1:=Nat.lt_of_lt_of_le hl1 (Bel.size hbw0);replace c1_0:=(hh1 _).trans c1_0;replace c1_1:=(hh1 _).trans c1_1;replace c1_2:=(hh1 _).trans c1_2;replace c1_3:=(hh1 _).trans c1_3;replace c1_4:=(hh1 _).trans c1_4;replace c1_5:=(hh1 _).trans c1_5;have HX1:=hide hx1;clear hh1 hv1 hx1 hS1;simp only[Nat.zero_mul,Nat.one_mul,Nat.add_zero,Nat.reduceMul,Nat.add_assoc,Nat.reduceAdd]at c1_0 c1_1 c1_2 c1_3 c1_4 c1_5)
 (obtain⟨b2,o2,x2_0,x2_1,x2_2,x2_3,x2_4,x2_5,hA2,hS2,hl2,hx2,hv2,g2_0,g2_1,g2_2,g2_3,g2_4,g2_5,c2_0,c2_1,c2_2,c2_3,c2_4,c2_5⟩:=TValue.at HR.out 1 (by simp);injection Option.some.inj hA2 with qb2 qo2 _;subst qb2 qo2;have HV2:=hide (Dat.HoldVals.bel hbw0 hv2);have hh2:=hbw0.box b1 hl2;have hw2:=Nat.lt_of_lt_of_le hl2 (Bel.size hbw0);replace c2_0:=(hh2 _).trans c2_0;replace c2_1:=(hh2 _).trans c2_1;replace c2_2:=(hh2 _).trans c2_2;replace c2_3:=(hh2 _).trans c2_3;replace c2_4:=(hh2 _).trans c2_4;replace c2_5:=(hh2 _).trans c2_5;have HX2:=hide hx2;clear hh2 hv2 hx2 hS2;simp only[Nat.zero_mul,Nat.one_mul,Nat.add_zero,Nat.reduceMul,Nat.add_assoc,Nat.reduceAdd]at c2_0 c2_1 c2_2 c2_3 c2_4 c2_5)
 have hne1:¬b1=w.heap.size:=by omega
 have hne2:¬b1=w.heap.size+1:=by omega
 have HP:Hid (patB s 14 [a,b]=(chkP s 12 ⟨x1_0,x1_1,x1_2,x1_3,x1_4,x1_5⟩&&chkP s 12 ⟨x2_0,x2_1,x2_2,x2_3,x2_4,x2_5⟩)):=by
  show _=_
  unfold patB;rw[show patKinds 14=[12,12] by decide]
  exact rk127
 clear hbw0
 go_enter Tryd.func47,Tryd.ntmps47
 go_wp2_with (fail)
 repeat (any_goals (go_quiet (fail);(try go_wp2_with (fail))))
 go_loopw [80] (fun v wr=>∃m:Nat,v=.int .i64 m∧m≤2∧Hid ((1≤m→Hid (chkP s 12 ⟨x1_0,x1_1,x1_2,x1_3,x1_4,x1_5⟩=true))∧(2≤m→Hid (chkP s 12 ⟨x2_0,x2_1,x2_2,x2_3,x2_4,x2_5⟩=true)))∧Bel ((w.alloc (.cells #[] 3)).alloc (.cells #[.int .i64 12,.int .i64 12] 3)) wr) (fun v _=>2 - (intOf v).toNat)
 case atStart=>exact⟨0,rfl,by omega,⟨fun h=>absurd h (by omega),fun h=>absurd h (by omega)⟩,bl⟩
 case round =>
  obtain⟨m,rfl,m1,hm,hbx⟩:=hrel
  have hbw:Bel w wr:=Bel.trans bl hbx
  have hz:=hbx.size
  simp only[World.size_alloc]at hz
  have hcb0:=hbw.box b1 (by omega)
  have hk0:=hbx.box (w.heap.size+1) (by simp)
  by_cases e0:m=0
  ·
   subst e0
   cases hi:inB s ⟨x1_0,x1_1,x1_2,x1_3,x1_4,x1_5⟩
   ·
    by_cases hk:x1_0=12
    ·
     have fk:(x1_0 != 12)=false:=by simp[hk]
     exact rk88
    ·
     have fk:(x1_0 != 12)=true:=by simp[hk]
     exact rk88
   ·
    by_cases hk:x1_0=12
    ·
     exact rk122
    ·
     have fk:(x1_0 != 12)=true:=by simp[hk]
     exact rk88
  by_cases e1:m=1
  ·
   subst e1
   cases hi:inB s ⟨x2_0,x2_1,x2_2,x2_3,x2_4,x2_5⟩
   ·
    by_cases hk:x2_0=12
    ·
     have fk:(x2_0 != 12)=false:=by simp[hk]
     exact rk89
    ·
     have fk:(x2_0 != 12)=true:=by simp[hk]
     exact rk89
   ·
    by_cases hk:x2_0=12
    ·
     exact rk121
    ·
     have fk:(x2_0 != 12)=true:=by simp[hk]
     exact rk89
  obtain rfl:m=2:=by omega
  have HC0:=hm.out.1 (by omega)
  have HC1:=hm.out.2 (by omega)
  have RR:=hide (show patB s 14 [a,b]=true by rw[HP.out,HC0.out,HC1.out];first | done | rfl)
  exact rk77
end Go.Proofs.YtoikhhnmbbbjjaaDoor
