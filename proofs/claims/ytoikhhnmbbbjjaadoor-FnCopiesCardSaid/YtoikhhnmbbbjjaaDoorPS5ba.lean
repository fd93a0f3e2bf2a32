/- The program: pattern objects. -/
import Derived.Test.YtoikhhnmbbbjjaaDoorPr
import Derived.Test.YtoikhhnmbbbjjaaDoorPS3z
namespace Go.Proofs.YtoikhhnmbbbjjaaDoor
set_option linter.unusedVariables false
set_option linter.unusedSimpArgs false
set_option maxRecDepth 100000
open Go.RowKit
--%quiet
set_option maxHeartbeats 4000000 in
theorem implPat_len_1 (s:TStore) (its:List TValue) (h:its.length≠1):PatI s 1 its:=by
 intro S S' q w Ai ci hs hR
 have HS:=hide hs
 have hq:=hs.1
 have hqn:¬q=w.heap.size:=by omega
 have HR:=hide hR
 have hlen:=hR.1
 have hcm:=hR.2.1
 simp only[List.length_map,List.length_cons,List.length_nil,Nat.reduceAdd]at hlen
 unfold maxLen at hcm
 clear hR hs
 have RR:=hide (patB_len (s:=s) (op:=1) (its:=its) (by rw[show (patKinds 1).length=1 by decide];omega))
 have f1:((its.length:Int) != 1)=true:=by rw[bne_iff_ne];omega
 exact rk16
set_option maxHeartbeats 4000000 in
theorem implPat_1 (s:TStore) (a:TValue):PatI s 1 [a]:=by
 intro S S' q w Ai ci hs hR
 have HS:=hide hs
 have hq:=hs.1
 have hqn:¬q=w.heap.size:=by omega
 have HR:=hide hR
 have hlen:=hR.1
 have hcm:=hR.2.1
 simp only[List.length_map,List.length_cons,List.length_nil,Nat.reduceAdd]at hlen
 unfold maxLen at hcm
 clear hR hs
 have hbw0:Bel w w:=Bel.refl w
 (obtain⟨b1,o1,x1_0,x1_1,x1_2,x1_3,x1_4,x1_5,hA1,hS1,hl1,hx1,hv1,g1_0,g1_1,g1_2,g1_3,g1_4,g1_5,c1_0,c1_1,c1_2,c1_3,c1_4,c1_5⟩:=TValue.at HR.out 0 (by simp);subst hA1;have HV1:=hide (Dat.HoldVals.bel hbw0 hv1);have hh1:=hbw0.box b1 hl1;have hw1:=Nat.lt_of_lt_of_le hl1 (Bel.size hbw0);replace c1_0:=(hh1 _).trans c1_0;replace c1_1:=(hh1 _).trans c1_1;replace c1_2:=(hh1 _).trans c1_2;replace c1_3:=(hh1 _).trans c1_3;replace c1_4:=(hh1 _).trans c1_4;replace c1_5:=(hh1 _).trans c1_5;have HX1:=hide hx1;clear hh1 hv1 hx1 hS1;simp only[Nat.zero_mul,Nat.one_mul,Nat.add_zero,Nat.reduceMul,Nat.add_assoc,Nat.reduceAdd]at c1_0 c1_1 c1_2 c1_3 c1_4 c1_5)
 have hne1:¬b1=w.heap.size:=by omega
 have hne2:¬b1=w.heap.size+1:=by omega
 have HP:Hid (patB s 1 [a]=(chkP s 2 ⟨x1_0,x1_1,x1_2,x1_3,x1_4,x1_5⟩)):=by
  show _=_
  unfold patB;rw[show patKinds 1=[2] by decide]
  exact rk107
 clear hbw0
 go_enter Tryd.func47,Tryd.ntmps47
 go_wp2_with (fail)
 repeat (any_goals (go_quiet (fail);(try go_wp2_with (fail))))
 go_loopw [80] (fun v wr=>∃m:Nat,v=.int .i64 m∧m≤1∧Hid ((1≤m→Hid (chkP s 2 ⟨x1_0,x1_1,x1_2,x1_3,x1_4,x1_5⟩=true)))∧Bel ((w.alloc (.cells #[] 3)).alloc (.cells #[.int .i64 2] 3)) wr) (fun v _=>1 - (intOf v).toNat)
 case atStart=>exact⟨0,rfl,by omega,fun h=>absurd h (by omega),bl⟩
 case round =>
  obtain⟨m,rfl,m1,hm,hbx⟩:=hrel
  have hbw:Bel w wr:=Bel.trans bl hbx
  have hz:=hbx.size
  simp only[World.size_alloc]at hz
  have hcb0:=hbw.box b1 (by omega)
  have hk0:=hbx.box (w.heap.size+1) (by simp)
  by_cases e0:m=0
  ·
   subst e0
   cases hi:inB s ⟨x1_0,x1_1,x1_2,x1_3,x1_4,x1_5⟩
   ·
    by_cases hk:x1_0=2
    ·
     have fk:(x1_0 != 2)=false:=by simp[hk]
     exact rk98
    ·
     have fk:(x1_0 != 2)=true:=by simp[hk]
     exact rk98
   ·
    by_cases hk:x1_0=2
    ·
     have fk:(x1_0 != 2)=false:=by simp[hk]
     have HC:=hide (show chkP s 2 ⟨x1_0,x1_1,x1_2,x1_3,x1_4,x1_5⟩=true by unfold chkP;rw[hi];simp[hk])
     exact rk70
    ·
     have fk:(x1_0 != 2)=true:=by simp[hk]
     exact rk98
  obtain rfl:m=1:=by omega
  have HC0:=hm.out (by omega)
  have RR:=hide (show patB s 1 [a]=true by rw[HP.out,HC0.out];first | done | rfl)
  exact rk77
set_option maxHeartbeats 4000000 in
theorem implPat_len_2 (s:TStore) (its:List TValue) (h:its.length≠1):PatI s 2 its:=by
 intro S S' q w Ai ci hs hR
 have HS:=hide hs
 have hq:=hs.1
 have hqn:¬q=w.heap.size:=by omega
 have HR:=hide hR
 have hlen:=hR.1
 have hcm:=hR.2.1
 simp only[List.length_map,List.length_cons,List.length_nil,Nat.reduceAdd]at hlen
 unfold maxLen at hcm
 clear hR hs
 have RR:=hide (patB_len (s:=s) (op:=2) (its:=its) (by rw[show (patKinds 2).length=1 by decide];omega))
 have f1:((its.length:Int) != 1)=true:=by rw[bne_iff_ne];omega
 exact rk16
set_option maxHeartbeats 4000000 in
theorem implPat_2 (s:TStore) (a:TValue):PatI s 2 [a]:=by
 intro S S' q w Ai ci hs hR
 have HS:=hide hs
 have hq:=hs.1
 have hqn:¬q=w.heap.size:=by omega
 have HR:=hide hR
 have hlen:=hR.1
 have hcm:=hR.2.1
 simp only[List.length_map,List.length_cons,List.length_nil,Nat.reduceAdd]at hlen
 unfold maxLen at hcm
 clear hR hs
 have hbw0:Bel w w:=Bel.refl w
 (obtain⟨b1,o1,x1_0,x1_1,x1_2,x1_3,x1_4,x1_5,hA1,hS1,hl1,hx1,hv1,g1_0,g1_1,g1_2,g1_3,g1_4,g1_5,c1_0,c1_1,c1_2,c1_3,c1_4,c1_5⟩:=TValue.at HR.out 0 (by simp);subst hA1;have HV1:=hide (Dat.HoldVals.bel hbw0 hv1);have hh1:=hbw0.box b1 hl1;have hw1:=Nat.lt_of_lt_of_le hl1 (Bel.size hbw0);replace c1_0:=(hh1 _).trans c1_0;replace c1_1:=(hh1 _).trans c1_1;replace c1_2:=(hh1 _).trans c1_2;replace c1_3:=(hh1 _).trans c1_3;replace c1_4:=(hh1 _).trans c1_4;replace c1_5:=(hh1 _).trans c1_5;have HX1:=hide hx1;clear hh1 hv1 hx1 hS1;simp only[Nat.zero_mul,Nat.one_mul,Nat.add_zero,Nat.reduceMul,Nat.add_assoc,Nat.reduceAdd]at c1_0 c1_1 c1_2 c1_3 c1_4 c1_5)
 have hne1:¬b1=w.heap.size:=by omega
 have hne2:¬b1=w.heap.size+1:=by omega
 have HP:Hid (patB s 2 [a]=(chkP s 1 ⟨x1_0,x1_1,x1_2,x1_3,x1_4,x1_5⟩)):=by
  show _=_
  unfold patB;rw[show patKinds 2=[1] by decide]
  exact rk107
 clear hbw0
 go_enter Tryd.func47,Tryd.ntmps47
 go_wp2_with (fail)
 repeat (any_goals (go_quiet (fail);(try go_wp2_with (fail))))
 go_loopw [80] (fun v wr=>∃m:Nat,v=.int .i64 m∧m≤1∧Hid ((1≤m→Hid (chkP s 1 ⟨x1_0,x1_1,x1_2,x1_3,x1_4,x1_5⟩=true)))∧Bel ((w.alloc (.cells #[] 3)).alloc (.cells #[.int .i64 1] 3)) wr) (fun v _=>1 - (intOf v).toNat)
 case atStart=>exact⟨0,rfl,by omega,fun h=>absurd h (by omega),bl⟩
 case round =>
  obtain⟨m,rfl,m1,hm,hbx⟩:=hrel
  have hbw:Bel w wr:=Bel.trans bl hbx
  have hz:=hbx.size
  simp only[World.size_alloc]at hz
  have hcb0:=hbw.box b1 (by omega)
  have hk0:=hbx.box (w.heap.size+1) (by simp)
  by_cases e0:m=0
  ·
   subst e0
   cases hi:inB s ⟨x1_0,x1_1,x1_2,x1_3,x1_4,x1_5⟩
   ·
    by_cases hk:x1_0=1
    ·
     have fk:(x1_0 != 1)=false:=by simp[hk]
     exact rk99
    ·
     have fk:(x1_0 != 1)=true:=by simp[hk]
     exact rk99
   ·
    by_cases hk:x1_0=1
    ·
     have fk:(x1_0 != 1)=false:=by simp[hk]
     have HC:=hide (show chkP s 1 ⟨x1_0,x1_1,x1_2,x1_3,x1_4,x1_5⟩=true by unfold chkP;rw[hi];simp[hk])
     exact rk70
    ·
     have fk:(x1_0 != 1)=true:=by simp[hk]
     exact rk99
  obtain rfl:m=1:=by omega
  have HC0:=hm.out (by omega)
  have RR:=hide (show patB s 2 [a]=true by rw[HP.out,HC0.out];first | done | rfl)
  exact rk77
set_option maxHeartbeats 4000000 in
theorem implPat_len_3 (s:TStore) (its:List TValue) (h:its.length≠1):PatI s 3 its:=by
 intro S S' q w Ai ci hs hR
 have HS:=hide hs
 have hq:=hs.1
 have hqn:¬q=w.heap.size:=by omega
 have HR:=hide hR
 have hlen:=hR.1
 have hcm:=hR.2.1
 simp only[List.length_map,List.length_cons,List.length_nil,Nat.reduceAdd]at hlen
 unfold maxLen at hcm
 clear hR hs
 have RR:=hide (patB_len (s:=s) (op:=3) (its:=its) (by rw[show (patKinds 3).length=1 by decide];omega))
 have f1:((its.length:Int) != 1)=true:=by rw[bne_iff_ne];omega
 exact rk16
set_option maxHeartbeats 4000000 in
theorem implPat_3 (s:TStore) (a:TValue):PatI s 3 [a]:=by
 intro S S' q w Ai ci hs hR
 have HS:=hide hs
 have hq:=hs.1
 have hqn:¬q=w.heap.size:=by omega
 have HR:=hide hR
 have hlen:=hR.1
 have hcm:=hR.2.1
 simp only[List.length_map,List.length_cons,List.length_nil,Nat.reduceAdd]at hlen
 unfold maxLen at hcm
 clear hR hs
 have hbw0:Bel w w:=Bel.refl w
 (obtain⟨b1,o1,x1_0,x1_1,x1_2,x1_3,x1_4,x1_5,hA1,hS1,hl1,hx1,hv1,g1_0,g1_1,g1_2,g1_3,g1_4,g1_5,c1_0,c1_1,c1_2,c1_3,c1_4,c1_5⟩:=TValue.at HR.out 0 (by simp);subst hA1;have HV1:=hide (Dat.HoldVals.bel hbw0 hv1);have hh1:=hbw0.box b1 hl1;have hw1:=Nat.lt_of_lt_of_le hl1 (Bel.size hbw0);replace c1_0:=(hh1 _).trans c1_0;replace c1_1:=(hh1 _).trans c1_1;replace c1_2:=(hh1 _).trans c1_2;replace c1_3:=(hh1 _).trans c1_3;replace c1_4:=(hh1 _).trans c1_4;replace c1_5:=(hh1 _).trans c1_5;have HX1:=hide hx1;clear hh1 hv1 hx1 hS1;simp only[Nat.zero_mul,Nat.one_mul,Nat.add_zero,Nat.reduceMul,Nat.add_assoc,Nat.reduceAdd]at c1_0 c1_1 c1_2 c1_3 c1_4 c1_5)
 have hne1:¬b1=w.heap.size:=by omega
 have hne2:¬b1=w.heap.size+1:=by omega
 have HP:Hid (patB s 3 [a]=(chkP s 1 ⟨x1_0,x1_1,x1_2,x1_3,x1_4,x1_5⟩)):=by
  show _=_
  unfold patB;rw[show patKinds 3=[1] by decide]
  exact rk107
 clear hbw0
 go_enter Tryd.func47,Tryd.ntmps47
 go_wp2_with (fail)
 repeat (any_goals (go_quiet (fail);(try go_wp2_with (fail))))
 go_loopw [80] (fun v wr=>∃m:Nat,v=.int .i64 m∧m≤1∧Hid ((1≤m→Hid (chkP s 1 ⟨x1_0,x1_1,x1_2,x1_3,x1_4,x1_5⟩=true)))∧Bel ((w.alloc (.cells #[] 3)).alloc (.cells #[.int .i64 1] 3)) wr) (fun v _=>1 - (intOf v).toNat)
 case atStart=>exact⟨0,rfl,by omega,fun h=>absurd h (by omega),bl⟩
 case round =>
  obtain⟨m,rfl,m1,hm,hbx⟩:=hrel
  have hbw:Bel w wr:=Bel.trans bl hbx
  have hz:=hbx.size
  simp only[World.size_alloc]at hz
  have hcb0:=hbw.box b1 (by omega)
  have hk0:=hbx.box (w.heap.size+1) (by simp)
  by_cases e0:m=0
  ·
   subst e0
   cases hi:inB s ⟨x1_0,x1_1,x1_2,x1_3,x1_4,x1_5⟩
   ·
    by_cases hk:x1_0=1
    ·
     have fk:(x1_0 != 1)=false:=by simp[hk]
     exact rk100
    ·
     have fk:(x1_0 != 1)=true:=by simp[hk]
     exact rk100
   ·
    by_cases hk:x1_0=1
    ·
     have fk:(x1_0 != 1)=false:=by simp[hk]
     have HC:=hide (show chkP s 1 ⟨x1_0,x1_1,x1_2,x1_3,x1_4,x1_5⟩=true by unfold chkP;rw[hi];simp[hk])
     exact rk70
    ·
     have fk:(x1_0 != 1)=true:=by simp[hk]
     exact rk100
  obtain rfl:m=1:=by omega
  have HC0:=hm.out (by omega)
  have RR:=hide (show patB s 3 [a]=true by rw[HP.out,HC0.out];first | done | rfl)
  exact rk77
set_option maxHeartbeats 4000000 in
theorem implPat_len_4 (s:TStore) (its:List TValue) (h:its.length≠1):PatI s 4 its:=by
 intro S S' q w Ai ci hs hR
 have HS:=hide hs
 have hq:=hs.1
 have hqn:¬q=w.heap.size:=by omega
 have HR:=hide hR
 have hlen:=hR.1
 have hcm:=hR.2.1
 simp only[List.length_map,List.length_cons,List.length_nil,Nat.reduceAdd]at hlen
 unfold maxLen at hcm
 clear hR hs
 have RR:=hide (patB_len (s:=s) (op:=4) (its:=its) (by rw[show (patKinds 4).length=1 by decide];omega))
 have f1:((its.length:Int) != 1)=true:=by rw[bne_iff_ne];omega
 exact rk16
set_option maxHeartbeats 4000000 in
theorem implPat_4 (s:TStore) (a:TValue):PatI s 4 [a]:=by
 intro S S' q w Ai ci hs hR
 have HS:=hide hs
 have hq:=hs.1
 have hqn:¬q=w.heap.size:=by omega
 have HR:=hide hR
 have hlen:=hR.1
 have hcm:=hR.2.1
 simp only[List.length_map,List.length_cons,List.length_nil,Nat.reduceAdd]at hlen
 unfold maxLen at hcm
 clear hR hs
 have hbw0:Bel w w:=Bel.refl w
 (obtain⟨b1,o1,x1_0,x1_1,x1_2,x1_3,x1_4,x1_5,hA1,hS1,hl1,hx1,hv1,g1_0,g1_1,g1_2,g1_3,g1_4,g1_5,c1_0,c1_1,c1_2,c1_3,c1_4,c1_5⟩:=TValue.at HR.out 0 (by simp);subst hA1;have HV1:=hide (Dat.HoldVals.bel hbw0 hv1);have hh1:=hbw0.box b1 hl1;have hw1:=Nat.lt_of_lt_of_le hl1 (Bel.size hbw0);replace c1_0:=(hh1 _).trans c1_0;replace c1_1:=(hh1 _).trans c1_1;replace c1_2:=(hh1 _).trans c1_2;replace c1_3:=(hh1 _).trans c1_3;replace c1_4:=(hh1 _).trans c1_4;replace c1_5:=(hh1 _).trans c1_5;have HX1:=hide hx1;clear hh1 hv1 hx1 hS1;simp only[Nat.zero_mul,Nat.one_mul,Nat.add_zero,Nat.reduceMul,Nat.add_assoc,Nat.reduceAdd]at c1_0 c1_1 c1_2 c1_3 c1_4 c1_5)
 have hne1:¬b1=w.heap.size:=by omega
 have hne2:¬b1=w.heap.size+1:=by omega
 have HP:Hid (patB s 4 [a]=(chkP s 1 ⟨x1_0,x1_1,x1_2,x1_3,x1_4,x1_5⟩)):=by
  show _=_
  unfold patB;rw[show patKinds 4=[1] by decide]
  exact rk107
 clear hbw0
 go_enter Tryd.func47,Tryd.ntmps47
 go_wp2_with (fail)
 repeat (any_goals (go_quiet (fail);(try go_wp2_with (fail))))
 go_loopw [80] (fun v wr=>∃m:Nat,v=.int .i64 m∧m≤1∧Hid ((1≤m→Hid (chkP s 1 ⟨x1_0,x1_1,x1_2,x1_3,x1_4,x1_5⟩=true)))∧Bel ((w.alloc (.cells #[] 3)).alloc (.cells #[.int .i64 1] 3)) wr) (fun v _=>1 - (intOf v).toNat)
 case atStart=>exact⟨0,rfl,by omega,fun h=>absurd h (by omega),bl⟩
 case round =>
  obtain⟨m,rfl,m1,hm,hbx⟩:=hrel
  have hbw:Bel w wr:=Bel.trans bl hbx
  have hz:=hbx.size
  simp only[World.size_alloc]at hz
  have hcb0:=hbw.box b1 (by omega)
  have hk0:=hbx.box (w.heap.size+1) (by simp)
  by_cases e0:m=0
  ·
   subst e0
   cases hi:inB s ⟨x1_0,x1_1,x1_2,x1_3,x1_4,x1_5⟩
   ·
    by_cases hk:x1_0=1
    ·
     have fk:(x1_0 != 1)=false:=by simp[hk]
     exact rk101
    ·
     have fk:(x1_0 != 1)=true:=by simp[hk]
     exact rk101
   ·
    by_cases hk:x1_0=1
    ·
     have fk:(x1_0 != 1)=false:=by simp[hk]
     have HC:=hide (show chkP s 1 ⟨x1_0,x1_1,x1_2,x1_3,x1_4,x1_5⟩=true by unfold chkP;rw[hi];simp[hk])
     exact rk70
    ·
     have fk:(x1_0 != 1)=true:=by simp[hk]
     exact rk101
  obtain rfl:m=1:=by omega
  have HC0:=hm.out (by omega)
  have RR:=hide (show patB s 4 [a]=true by rw[HP.out,HC0.out];first | done | rfl)
  exact rk77
set_option maxHeartbeats 4000000 in
theorem implPat_len_5 (s:TStore) (its:List TValue) (h:its.length≠1):PatI s 5 its:=by
 intro S S' q w Ai ci hs hR
 have HS:=hide hs
 have hq:=hs.1
 have hqn:¬q=w.heap.size:=by omega
 have HR:=hide hR
 have hlen:=hR.1
 have hcm:=hR.2.1
 simp only[List.length_map,List.length_cons,List.length_nil,Nat.reduceAdd]at hlen
 unfold maxLen at hcm
 clear hR hs
 have RR:=hide (patB_len (s:=s) (op:=5) (its:=its) (by rw[show (patKinds 5).length=1 by decide];omega))
 have f1:((its.length:Int) != 1)=true:=by rw[bne_iff_ne];omega
 exact rk16
set_option maxHeartbeats 4000000 in
theorem implPat_5 (s:TStore) (a:TValue):PatI s 5 [a]:=by
 intro S S' q w Ai ci hs hR
 have HS:=hide hs
 have hq:=hs.1
 have hqn:¬q=w.heap.size:=by omega
 have HR:=hide hR
 have hlen:=hR.1
 have hcm:=hR.2.1
 simp only[List.length_map,List.length_cons,List.length_nil,Nat.reduceAdd]at hlen
 unfold maxLen at hcm
 clear hR hs
 have hbw0:Bel w w:=Bel.refl w
 (obtain⟨b1,o1,x1_0,x1_1,x1_2,x1_3,x1_4,x1_5,hA1,hS1,hl1,hx1,hv1,g1_0,g1_1,g1_2,g1_3,g1_4,g1_5,c1_0,c1_1,c1_2,c1_3,c1_4,c1_5⟩:=TValue.at HR.out 0 (by simp);subst hA1;have HV1:=hide (Dat.HoldVals.bel hbw0 hv1);have hh1:=hbw0.box b1 hl1;have hw1:=Nat.lt_of_lt_of_le hl1 (Bel.size hbw0);replace c1_0:=(hh1 _).trans c1_0;replace c1_1:=(hh1 _).trans c1_1;replace c1_2:=(hh1 _).trans c1_2;replace c1_3:=(hh1 _).trans c1_3;replace c1_4:=(hh1 _).trans c1_4;replace c1_5:=(hh1 _).trans c1_5;have HX1:=hide hx1;clear hh1 hv1 hx1 hS1;simp only[Nat.zero_mul,Nat.one_mul,Nat.add_zero,Nat.reduceMul,Nat.add_assoc,Nat.reduceAdd]at c1_0 c1_1 c1_2 c1_3 c1_4 c1_5)
 have hne1:¬b1=w.heap.size:=by omega
 have hne2:¬b1=w.heap.size+1:=by omega
 have HP:Hid (patB s 5 [a]=(chkP s 1 ⟨x1_0,x1_1,x1_2,x1_3,x1_4,x1_5⟩)):=by
  show _=_
  unfold patB;rw[show patKinds 5=[1] by decide]
  exact rk107
 clear hbw0
 go_enter Tryd.func47,Tryd.ntmps47
 go_wp2_with (fail)
 repeat (any_goals (go_quiet (fail);(try go_wp2_with (fail))))
 go_loopw [80] (fun v wr=>∃m:Nat,v=.int .i64 m∧m≤1∧Hid ((1≤m→Hid (chkP s 1 ⟨x1_0,x1_1,x1_2,x1_3,x1_4,x1_5⟩=true)))∧Bel ((w.alloc (.cells #[] 3)).alloc (.cells #[.int .i64 1] 3)) wr) (fun v _=>1 - (intOf v).toNat)
 case atStart=>exact⟨0,rfl,by omega,fun h=>absurd h (by omega),bl⟩
 case round =>
  obtain⟨m,rfl,m1,hm,hbx⟩:=hrel
  have hbw:Bel w wr:=Bel.trans bl hbx
  have hz:=hbx.size
  simp only[World.size_alloc]at hz
  have hcb0:=hbw.box b1 (by omega)
  have hk0:=hbx.box (w.heap.size+1) (by simp)
  by_cases e0:m=0
  ·
   subst e0
   cases hi:inB s ⟨x1_0,x1_1,x1_2,x1_3,x1_4,x1_5⟩
   ·
    by_cases hk:x1_0=1
    ·
     have fk:(x1_0 != 1)=false:=by simp[hk]
     exact rk102
    ·
     have fk:(x1_0 != 1)=true:=by simp[hk]
     exact rk102
   ·
    by_cases hk:x1_0=1
    ·
     have fk:(x1_0 != 1)=false:=by simp[hk]
     have HC:=hide (show chkP s 1 ⟨x1_0,x1_1,x1_2,x1_3,x1_4,x1_5⟩=true by unfold chkP;rw[hi];simp[hk])
     exact rk70
    ·
     have fk:(x1_0 != 1)=true:=by simp[hk]
     exact rk102
  obtain rfl:m=1:=by omega
  have HC0:=hm.out (by omega)
  have RR:=hide (show patB s 5 [a]=true by rw[HP.out,HC0.out];first | done | rfl)
  exact rk77
set_option maxHeartbeats 4000000 in
theorem implPat_len_6 (s:TStore) (its:List TValue) (h:its.length≠1):PatI s 6 its:=by
 intro S S' q w Ai ci hs hR
 have HS:=hide hs
 have hq:=hs.1
 have hqn:¬q=w.heap.size:=by omega
 have HR:=hide hR
 have hlen:=hR.1
 have hcm:=hR.2.1
 simp only[List.length_map,List.length_cons,List.length_nil,Nat.reduceAdd]at hlen
 unfold maxLen at hcm
 clear hR hs
 have RR:=hide (patB_len (s:=s) (op:=6) (its:=its) (by rw[show (patKinds 6).length=1 by decide];omega))
 have f1:((its.length:Int) != 1)=true:=by rw[bne_iff_ne];omega
 exact rk16
set_option maxHeartbeats 4000000 in
theorem implPat_6 (s:TStore) (a:TValue):PatI s 6 [a]:=by
 intro S S' q w Ai ci hs hR
 have HS:=hide hs
 have hq:=hs.1
 have hqn:¬q=w.heap.size:=by omega
 have HR:=hide hR
 have hlen:=hR.1
 have hcm:=hR.2.1
 simp only[List.length_map,List.length_cons,List.length_nil,Nat.reduceAdd]at hlen
 unfold maxLen at hcm
 clear hR hs
 have hbw0:Bel w w:=Bel.refl w
 (obtain⟨b1,o1,x1_0,x1_1,x1_2,x1_3,x1_4,x1_5,hA1,hS1,hl1,hx1,hv1,g1_0,g1_1,g1_2,g1_3,g1_4,g1_5,c1_0,c1_1,c1_2,c1_3,c1_4,c1_5⟩:=TValue.at HR.out 0 (by simp);subst hA1;have HV1:=hide (Dat.HoldVals.bel hbw0 hv1);have hh1:=hbw0.box b1 hl1;have hw1:=Nat.lt_of_lt_of_le hl1 (Bel.size hbw0);replace c1_0:=(hh1 _).trans c1_0;replace c1_1:=(hh1 _).trans c1_1;replace c1_2:=(hh1 _).trans c1_2;replace c1_3:=(hh1 _).trans c1_3;replace c1_4:=(hh1 _).trans c1_4;replace c1_5:=(hh1 _).trans c1_5;have HX1:=hide hx1;clear hh1 hv1 hx1 hS1;simp only[Nat.zero_mul,Nat.one_mul,Nat.add_zero,Nat.reduceMul,Nat.add_assoc,Nat.reduceAdd]at c1_0 c1_1 c1_2 c1_3 c1_4 c1_5)
 have hne1:¬b1=w.heap.size:=by omega
 have hne2:¬b1=w.heap.size+1:=by omega
 have HP:Hid (patB s 6 [a]=(chkP s 1 ⟨x1_0,x1_1,x1_2,x1_3,x1_4,x1_5⟩)):=by
  show _=_
  unfold patB;rw[show patKinds 6=[1] by decide]
  exact rk107
 clear hbw0
 go_enter Tryd.func47,Tryd.ntmps47
 go_wp2_with (fail)
 repeat (any_goals (go_quiet (fail);(try go_wp2_with (fail))))
 go_loopw [80] (fun v wr=>∃m:Nat,v=.int .i64 m∧m≤1∧Hid ((1≤m→Hid (chkP s 1 ⟨x1_0,x1_1,x1_2,x1_3,x1_4,x1_5⟩=true)))∧Bel ((w.alloc (.cells #[] 3)).alloc (.cells #[.int .i64 1] 3)) wr) (fun v _=>1 - (intOf v).toNat)
 case atStart=>exact⟨0,rfl,by omega,fun h=>absurd h (by omega),bl⟩
 case round =>
  obtain⟨m,rfl,m1,hm,hbx⟩:=hrel
  have hbw:Bel w wr:=Bel.trans bl hbx
  have hz:=hbx.size
  simp only[World.size_alloc]at hz
  have hcb0:=hbw.box b1 (by omega)
  have hk0:=hbx.box (w.heap.size+1) (by simp)
  by_cases e0:m=0
  ·
   subst e0
   cases hi:inB s ⟨x1_0,x1_1,x1_2,x1_3,x1_4,x1_5⟩
   ·
    by_cases hk:x1_0=1
    ·
     have fk:(x1_0 != 1)=false:=by simp[hk]
     exact rk103
    ·
     have fk:(x1_0 != 1)=true:=by simp[hk]
     exact rk103
   ·
    by_cases hk:x1_0=1
    ·
     have fk:(x1_0 != 1)=false:=by simp[hk]
     have HC:=hide (show chkP s 1 ⟨x1_0,x1_1,x1_2,x1_3,x1_4,x1_5⟩=true by unfold chkP;rw[hi];simp[hk])
     exact rk70
    ·
     have fk:(x1_0 != 1)=true:=by simp[hk]
     exact rk103
  obtain rfl:m=1:=by omega
  have HC0:=hm.out (by omega)
  have RR:=hide (show patB s 6 [a]=true by rw[HP.out,HC0.out];first | done | rfl)
  exact rk77
set_option maxHeartbeats 4000000 in
theorem implPat_len_7 (s:TStore) (its:List TValue) (h:its.length≠1):PatI s 7 its:=by
 intro S S' q w Ai ci hs hR
 have HS:=hide hs
 have hq:=hs.1
 have hqn:¬q=w.heap.size:=by omega
 have HR:=hide hR
 have hlen:=hR.1
 have hcm:=hR.2.1
 simp only[List.length_map,List.length_cons,List.length_nil,Nat.reduceAdd]at hlen
 unfold maxLen at hcm
 clear hR hs
 have RR:=hide (patB_len (s:=s) (op:=7) (its:=its) (by rw[show (patKinds 7).length=1 by decide];omega))
 have f1:((its.length:Int) != 1)=true:=by rw[bne_iff_ne];omega
 exact rk16
set_option maxHeartbeats 4000000 in
theorem implPat_7 (s:TStore) (a:TValue):PatI s 7 [a]:=by
 intro S S' q w Ai ci hs hR
 have HS:=hide hs
 have hq:=hs.1
 have hqn:¬q=w.heap.size:=by omega
 have HR:=hide hR
 have hlen:=hR.1
 have hcm:=hR.2.1
 simp only[List.length_map,List.length_cons,List.length_nil,Nat.reduceAdd]at hlen
 unfold maxLen at hcm
 clear hR hs
 have hbw0:Bel w w:=Bel.refl w
 (obtain⟨b1,o1,x1_0,x1_1,x1_2,x1_3,x1_4,x1_5,hA1,hS1,hl1,hx1,hv1,g1_0,g1_1,g1_2,g1_3,g1_4,g1_5,c1_0,c1_1,c1_2,c1_3,c1_4,c1_5⟩:=TValue.at HR.out 0 (by simp);subst hA1;have HV1:=hide (Dat.HoldVals.bel hbw0 hv1);have hh1:=hbw0.box b1 hl1;have hw1:=Nat.lt_of_lt_of_le hl1 (Bel.size hbw0);replace c1_0:=(hh1 _).trans c1_0;replace c1_1:=(hh1 _).trans c1_1;replace c1_2:=(hh1 _).trans c1_2;replace c1_3:=(hh1 _).trans c1_3;replace c1_4:=(hh1 _).trans c1_4;replace c1_5:=(hh1 _).trans c1_5;have HX1:=hide hx1;clear hh1 hv1 hx1 hS1;simp only[Nat.zero_mul,Nat.one_mul,Nat.add_zero,Nat.reduceMul,Nat.add_assoc,Nat.reduceAdd]at c1_0 c1_1 c1_2 c1_3 c1_4 c1_5)
 have hne1:¬b1=w.heap.size:=by omega
 have hne2:¬b1=w.heap.size+1:=by omega
 have HP:Hid (patB s 7 [a]=(chkP s 3 ⟨x1_0,x1_1,x1_2,x1_3,x1_4,x1_5⟩)):=by
  show _=_
  unfold patB;rw[show patKinds 7=[3] by decide]
  exact rk107
 clear hbw0
 go_enter Tryd.func47,Tryd.ntmps47
 go_wp2_with (fail)
 repeat (any_goals (go_quiet (fail);(try go_wp2_with (fail))))
 go_loopw [80] (fun v wr=>∃m:Nat,v=.int .i64 m∧m≤1∧Hid ((1≤m→Hid (chkP s 3 ⟨x1_0,x1_1,x1_2,x1_3,x1_4,x1_5⟩=true)))∧Bel ((w.alloc (.cells #[] 3)).alloc (.cells #[.int .i64 3] 3)) wr) (fun v _=>1 - (intOf v).toNat)
 case atStart=>exact⟨0,rfl,by omega,fun h=>absurd h (by omega),bl⟩
 case round =>
  obtain⟨m,rfl,m1,hm,hbx⟩:=hrel
  have hbw:Bel w wr:=Bel.trans bl hbx
  have hz:=hbx.size
  simp only[World.size_alloc]at hz
  have hcb0:=hbw.box b1 (by omega)
  have hk0:=hbx.box (w.heap.size+1) (by simp)
  by_cases e0:m=0
  ·
   subst e0
   cases hi:inB s ⟨x1_0,x1_1,x1_2,x1_3,x1_4,x1_5⟩
   ·
    by_cases hk:x1_0=3
    ·
     have fk:(x1_0 != 3)=false:=by simp[hk]
     exact rk104
    ·
     have fk:(x1_0 != 3)=true:=by simp[hk]
     exact rk104
   ·
    by_cases hk:x1_0=3
    ·
     have fk:(x1_0 != 3)=false:=by simp[hk]
     have HC:=hide (show chkP s 3 ⟨x1_0,x1_1,x1_2,x1_3,x1_4,x1_5⟩=true by unfold chkP;rw[hi];simp[hk])
     exact rk70
    ·
     have fk:(x1_0 != 3)=true:=by simp[hk]
     exact rk104
  obtain rfl:m=1:=by omega
  have HC0:=hm.out (by omega)
  have RR:=hide (show patB s 7 [a]=true by rw[HP.out,HC0.out];first | done | rfl)
  exact rk77
set_option maxHeartbeats 4000000 in
theorem implPat_len_8 (s:TStore) (its:List TValue) (h:its.length≠1):PatI s 8 its:=by
 intro S S' q w Ai ci hs hR
 have HS:=hide hs
 have hq:=hs.1
 have hqn:¬q=w.heap.size:=by omega
 have HR:=hide hR
 have hlen:=hR.1
 have hcm:=hR.2.1
 simp only[List.length_map,List.length_cons,List.length_nil,Nat.reduceAdd]at hlen
 unfold maxLen at hcm
 clear hR hs
 have RR:=hide (patB_len (s:=s) (op:=8) (its:=its) (by rw[show (patKinds 8).length=1 by decide];omega))
 have f1:((its.length:Int) != 1)=true:=by rw[bne_iff_ne];omega
 exact rk16
set_option maxHeartbeats 4000000 in
theorem implPat_8 (s:TStore) (a:TValue):PatI s 8 [a]:=by
 intro S S' q w Ai ci hs hR
 have HS:=hide hs
 have hq:=hs.1
 have hqn:¬q=w.heap.size:=by omega
 have HR:=hide hR
 have hlen:=hR.1
 have hcm:=hR.2.1
 simp only[List.length_map,List.length_cons,List.length_nil,Nat.reduceAdd]at hlen
 unfold maxLen at hcm
 clear hR hs
 have hbw0:Bel w w:=Bel.refl w
 (obtain⟨b1,o1,x1_0,x1_1,x1_2,x1_3,x1_4,x1_5,hA1,hS1,hl1,hx1,hv1,g1_0,g1_1,g1_2,g1_3,g1_4,g1_5,c1_0,c1_1,c1_2,c1_3,c1_4,c1_5⟩:=TValue.at HR.out 0 (by simp);subst hA1;have HV1:=hide (Dat.HoldVals.bel hbw0 hv1);have hh1:=hbw0.box b1 hl1;have hw1:=Nat.lt_of_lt_of_le hl1 (Bel.size hbw0);replace c1_0:=(hh1 _).trans c1_0;replace c1_1:=(hh1 _).trans c1_1;replace c1_2:=(hh1 _).trans c1_2;replace c1_3:=(hh1 _).trans c1_3;replace c1_4:=(hh1 _).trans c1_4;replace c1_5:=(hh1 _).trans c1_5;have HX1:=hide hx1;clear hh1 hv1 hx1 hS1;simp only[Nat.zero_mul,Nat.one_mul,Nat.add_zero,Nat.reduceMul,Nat.add_assoc,Nat.reduceAdd]at c1_0 c1_1 c1_2 c1_3 c1_4 c1_5)
 have hne1:¬b1=w.heap.size:=by omega
 have hne2:¬b1=w.heap.size+1:=by omega
 have HP:Hid (patB s 8 [a]=(chkP s 3 ⟨x1_0,x1_1,x1_2,x1_3,x1_4,x1_5⟩)):=by
  show _=_
  unfold patB;rw[show patKinds 8=[3] by decide]
  exact rk107
 clear hbw0
 go_enter Tryd.func47,Tryd.ntmps47
 go_wp2_with (fail)
 repeat (any_goals (go_quiet (fail);(try go_wp2_with (fail))))
 go_loopw [80] (fun v wr=>∃m:Nat,v=.int .i64 m∧m≤1∧Hid ((1≤m→Hid (chkP s 3 ⟨x1_0,x1_1,x1_2,x1_3,x1_4,x1_5⟩=true)))∧Bel ((w.alloc (.cells #[] 3)).alloc (.cells #[.int .i64 3] 3)) wr) (fun v _=>1 - (intOf v).toNat)
 case atStart=>exact⟨0,rfl,by omega,fun h=>absurd h (by omega),bl⟩
 case round =>
  obtain⟨m,rfl,m1,hm,hbx⟩:=hrel
  have hbw:Bel w wr:=Bel.trans bl hbx
  have hz:=hbx.size
  simp only[World.size_alloc]at hz
  have hcb0:=hbw.box b1 (by omega)
  have hk0:=hbx.box (w.heap.size+1) (by simp)
  by_cases e0:m=0
  ·
   subst e0
   cases hi:inB s ⟨x1_0,x1_1,x1_2,x1_3,x1_4,x1_5⟩
   ·
    by_cases hk:x1_0=3
    ·
     have fk:(x1_0 != 3)=false:=by simp[hk]
     exact rk105
    ·
     have fk:(x1_0 != 3)=true:=by simp[hk]
     exact rk105
   ·
    by_cases hk:x1_0=3
    ·
     have fk:(x1_0 != 3)=false:=by simp[hk]
     have HC:=hide (show chkP s 3 ⟨x1_0,x1_1,x1_2,x1_3,x1_4,x1_5⟩=true by unfold chkP;rw[hi];simp[hk])
     exact rk70
    ·
     have fk:(x1_0 != 3)=true:=by simp[hk]
     exact rk105
  obtain rfl:m=1:=by omega
  have HC0:=hm.out (by omega)
  have RR:=hide (show patB s 8 [a]=true by rw[HP.out,HC0.out];first | done | rfl)
  exact rk77
set_option maxHeartbeats 4000000 in
theorem implPat_len_9 (s:TStore) (its:List TValue) (h:its.length≠1):PatI s 9 its:=by
 intro S S' q w Ai ci hs hR
 have HS:=hide hs
 have hq:=hs.1
 have hqn:¬q=w.heap.size:=by omega
 have HR:=hide hR
 have hlen:=hR.1
 have hcm:=hR.2.1
 simp only[List.length_map,List.length_cons,List.length_nil,Nat.reduceAdd]at hlen
 unfold maxLen at hcm
 clear hR hs
 have RR:=hide (patB_len (s:=s) (op:=9) (its:=its) (by rw[show (patKinds 9).length=1 by decide];omega))
 have f1:((its.length:Int) != 1)=true:=by rw[bne_iff_ne];omega
 exact rk16
set_option maxHeartbeats 4000000 in
theorem implPat_9 (s:TStore) (a:TValue):PatI s 9 [a]:=by
 intro S S' q w Ai ci hs hR
 have HS:=hide hs
 have hq:=hs.1
 have hqn:¬q=w.heap.size:=by omega
 have HR:=hide hR
 have hlen:=hR.1
 have hcm:=hR.2.1
 simp only[List.length_map,List.length_cons,List.length_nil,Nat.reduceAdd]at hlen
 unfold maxLen at hcm
 clear hR hs
 have hbw0:Bel w w:=Bel.refl w
 (obtain⟨b1,o1,x1_0,x1_1,x1_2,x1_3,x1_4,x1_5,hA1,hS1,hl1,hx1,hv1,g1_0,g1_1,g1_2,g1_3,g1_4,g1_5,c1_0,c1_1,c1_2,c1_3,c1_4,c1_5⟩:=TValue.at HR.out 0 (by simp);subst hA1;have HV1:=hide (Dat.HoldVals.bel hbw0 hv1);have hh1:=hbw0.box b1 hl1;have hw1:=Nat.lt_of_lt_of_le hl1 (Bel.size hbw0);replace c1_0:=(hh1 _).trans c1_0;replace c1_1:=(hh1 _).trans c1_1;replace c1_2:=(hh1 _).trans c1_2;replace c1_3:=(hh1 _).trans c1_3;replace c1_4:=(hh1 _).trans c1_4;replace c1_5:=(hh1 _).trans c1_5;have HX1:=hide hx1;clear hh1 hv1 hx1 hS1;simp only[Nat.zero_mul,Nat.one_mul,Nat.add_zero,Nat.reduceMul,Nat.add_assoc,Nat.reduceAdd]at c1_0 c1_1 c1_2 c1_3 c1_4 c1_5)
 have hne1:¬b1=w.heap.size:=by omega
 have hne2:¬b1=w.heap.size+1:=by omega
 have HP:Hid (patB s 9 [a]=(chkP s 3 ⟨x1_0,x1_1,x1_2,x1_3,x1_4,x1_5⟩)):=by
  show _=_
  unfold patB;rw[show patKinds 9=[3] by decide]
  exact rk107
 clear hbw0
 go_enter Tryd.func47,Tryd.ntmps47
 go_wp2_with (fail)
 repeat (any_goals (go_quiet (fail);(try go_wp2_with (fail))))
 go_loopw [80] (fun v wr=>∃m:Nat,v=.int .i64 m∧m≤1∧Hid ((1≤m→Hid (chkP s 3 ⟨x1_0,x1_1,x1_2,x1_3,x1_4,x1_5⟩=true)))∧Bel ((w.alloc (.cells #[] 3)).alloc (.cells #[.int .i64 3] 3)) wr) (fun v _=>1 - (intOf v).toNat)
 case atStart=>exact⟨0,rfl,by omega,fun h=>absurd h (by omega),bl⟩
 case round =>
  obtain⟨m,rfl,m1,hm,hbx⟩:=hrel
  have hbw:Bel w wr:=Bel.trans bl hbx
  have hz:=hbx.size
  simp only[World.size_alloc]at hz
  have hcb0:=hbw.box b1 (by omega)
  have hk0:=hbx.box (w.heap.size+1) (by simp)
  by_cases e0:m=0
  ·
   subst e0
   cases hi:inB s ⟨x1_0,x1_1,x1_2,x1_3,x1_4,x1_5⟩
   ·
    by_cases hk:x1_0=3
    ·
     have fk:(x1_0 != 3)=false:=by simp[hk]
     exact rk106
    ·
     have fk:(x1_0 != 3)=true:=by simp[hk]
     exact rk106
   ·
    by_cases hk:x1_0=3
    ·
     have fk:(x1_0 != 3)=false:=by simp[hk]
     have HC:=hide (show chkP s 3 ⟨x1_0,x1_1,x1_2,x1_3,x1_4,x1_5⟩=true by unfold chkP;rw[hi];simp[hk])
     exact rk70
    ·
     have fk:(x1_0 != 3)=true:=by simp[hk]
     exact rk106
  obtain rfl:m=1:=by omega
  have HC0:=hm.out (by omega)
  have RR:=hide (show patB s 9 [a]=true by rw[HP.out,HC0.out];first | done | rfl)
  exact rk77
end Go.Proofs.YtoikhhnmbbbjjaaDoor
