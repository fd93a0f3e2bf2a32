import Derived.Test.YtjngkknbpfgdcaaGreatDoorPr
import Derived.Test.YtjngkknbpfgdcaaGreatDoorPS3z
set_option linter.unusedVariables false
set_option linter.unusedSimpArgs false
set_option maxRecDepth 100000
set_option maxHeartbeats 8000000
namespace Go.Proofs.YtjngkknbpfgdcaaGreatDoor
open Go.RowKit
--%quiet
theorem qm (s:cv) (its:List cw) (h:its.length≠1):js s 1 its:=by
 intro S S' q w Ai ci hs hR
 have HS:=hide hs
 have hq:=hs.1
 have gM:¬q=w.heap.size:=aB
 have HR:=hide hR
 have hlen:=hR.1
 have hcm:=hR.2.1
 simp only[aj,az,aA,Nat.reduceAdd]at hlen
 unfold maxLen at hcm
 clear hR hs
 have RR:=hide (gE (s:=s) (op:=1) (its:=its) (by rw[show (cW 1).length=1 by decide];omega))
 have f1:((its.length:Int) != 1)=true:=aH
 exact pj
theorem KJ (s:cv) (a:cw):js s 1 [a]:=by
 intro S S' q w Ai ci hs hR
 have HS:=hide hs
 have hq:=hs.1
 have gM:¬q=w.heap.size:=aB
 have HR:=hide hR
 have hlen:=hR.1
 have hcm:=hR.2.1
 simp only[aj,az,aA,Nat.reduceAdd]at hlen
 unfold maxLen at hcm
 clear hR hs
 have hbw0:cE w w:=cE.refl w
 (obtain⟨b1,o1,cH,cM,cN,cO,cP,dn,hA1,hS1,hl1,hx1,hv1,eY,eG,fa,dY,er,gw,db,de,dq,dy,dz,dU⟩:=cw.at HR.out 0 aK;subst hA1;have jh:=hide (Dat.cC.bel hbw0 hv1);have hh1:=hbw0.box b1 hl1;have hw1:=ak hl1 (cE.size hbw0);replace db:=(hh1 _).trans db;replace de:=(hh1 _).trans de;replace dq:=(hh1 _).trans dq;replace dy:=(hh1 _).trans dy;replace dz:=(hh1 _).trans dz;replace dU:=(hh1 _).trans dU;have gv:=hide hx1;clear hh1 hv1 hx1 hS1;simp only[Nat.zero_mul,Nat.one_mul,Nat.add_zero,Nat.reduceMul,Nat.add_assoc,Nat.reduceAdd]at db de dq dy dz dU)
 have hne1:¬b1=w.heap.size:=aB
 have hne2:¬b1=w.heap.size+1:=aB
 have HP:Hid (eV s 1 [a]=(eb s 2 ⟨cH,cM,cN,cO,cP,dn⟩)):=by
  show _=_
  unfold eV;rw[show cW 1=[2] by decide]
  exact rm
 clear hbw0
 go_enter Tryz.func97,Tryz.ntmps97
 go_wp2_with (fail)
 repeat (any_goals (go_quiet (fail);(try go_wp2_with (fail))))
 go_loopw [80] (fun v wr=>∃m:Nat,v=.int .i64 m/\m<=1/\Hid ((1<=m->Hid (eb s 2 ⟨cH,cM,cN,cO,cP,dn⟩=true)))/\cE ((w.alloc (.cells #[] 3)).alloc (.cells #[.int .i64 2] 3)) wr) (fun v _=>1 - (intOf v).toNat)
 case atStart=>exact⟨0,rfl,by omega,fun h=>absurd h aB,bl⟩
 case round =>
  obtain⟨m,rfl,m1,hm,hbx⟩:=hrel
  have hbw:cE w wr:=cE.trans bl hbx
  have hz:=hbx.size
  simp only[World.size_alloc]at hz
  have hcb0:=hbw.box b1 aB
  have hk0:=hbx.box (w.heap.size+1) aK
  by_cases e0:m=0
  ·
   subst e0
   cases hi:inB s ⟨cH,cM,cN,cO,cP,dn⟩
   ·
    by_cases hk:cH=2
    ·
     have fk:(cH != 2)=false:=aL
     exact Pg
    ·
     have fk:(cH != 2)=true:=aL
     exact Pg
   ·
    by_cases hk:cH=2
    ·
     have fk:(cH != 2)=false:=aL
     have HC:=hide (show eb s 2 ⟨cH,cM,cN,cO,cP,dn⟩=true by unfold eb;rw[hi];simp[hk])
     exact ya
    ·
     have fk:(cH != 2)=true:=aL
     exact Pg
  obtain rfl:m=1:=by omega
  have mz:=hm.out aB
  have RR:=hide (show eV s 1 [a]=true by rw[HP.out,mz.out];first | done | rfl)
  exact ov
theorem qn (s:cv) (its:List cw) (h:its.length≠1):js s 2 its:=by
 intro S S' q w Ai ci hs hR
 have HS:=hide hs
 have hq:=hs.1
 have gM:¬q=w.heap.size:=aB
 have HR:=hide hR
 have hlen:=hR.1
 have hcm:=hR.2.1
 simp only[aj,az,aA,Nat.reduceAdd]at hlen
 unfold maxLen at hcm
 clear hR hs
 have RR:=hide (gE (s:=s) (op:=2) (its:=its) (by rw[show (cW 2).length=1 by decide];omega))
 have f1:((its.length:Int) != 1)=true:=aH
 exact pj
theorem KK (s:cv) (a:cw):js s 2 [a]:=by
 intro S S' q w Ai ci hs hR
 have HS:=hide hs
 have hq:=hs.1
 have gM:¬q=w.heap.size:=aB
 have HR:=hide hR
 have hlen:=hR.1
 have hcm:=hR.2.1
 simp only[aj,az,aA,Nat.reduceAdd]at hlen
 unfold maxLen at hcm
 clear hR hs
 have hbw0:cE w w:=cE.refl w
 (obtain⟨b1,o1,cH,cM,cN,cO,cP,dn,hA1,hS1,hl1,hx1,hv1,eY,eG,fa,dY,er,gw,db,de,dq,dy,dz,dU⟩:=cw.at HR.out 0 aK;subst hA1;have jh:=hide (Dat.cC.bel hbw0 hv1);have hh1:=hbw0.box b1 hl1;have hw1:=ak hl1 (cE.size hbw0);replace db:=(hh1 _).trans db;replace de:=(hh1 _).trans de;replace dq:=(hh1 _).trans dq;replace dy:=(hh1 _).trans dy;replace dz:=(hh1 _).trans dz;replace dU:=(hh1 _).trans dU;have gv:=hide hx1;clear hh1 hv1 hx1 hS1;simp only[Nat.zero_mul,Nat.one_mul,Nat.add_zero,Nat.reduceMul,Nat.add_assoc,Nat.reduceAdd]at db de dq dy dz dU)
 have hne1:¬b1=w.heap.size:=aB
 have hne2:¬b1=w.heap.size+1:=aB
 have HP:Hid (eV s 2 [a]=(eb s 1 ⟨cH,cM,cN,cO,cP,dn⟩)):=by
  show _=_
  unfold eV;rw[show cW 2=[1] by decide]
  exact rm
 clear hbw0
 go_enter Tryz.func97,Tryz.ntmps97
 go_wp2_with (fail)
 repeat (any_goals (go_quiet (fail);(try go_wp2_with (fail))))
 go_loopw [80] (fun v wr=>∃m:Nat,v=.int .i64 m/\m<=1/\Hid ((1<=m->Hid (eb s 1 ⟨cH,cM,cN,cO,cP,dn⟩=true)))/\cE ((w.alloc (.cells #[] 3)).alloc (.cells #[.int .i64 1] 3)) wr) (fun v _=>1 - (intOf v).toNat)
 case atStart=>exact⟨0,rfl,by omega,fun h=>absurd h aB,bl⟩
 case round =>
  obtain⟨m,rfl,m1,hm,hbx⟩:=hrel
  have hbw:cE w wr:=cE.trans bl hbx
  have hz:=hbx.size
  simp only[World.size_alloc]at hz
  have hcb0:=hbw.box b1 aB
  have hk0:=hbx.box (w.heap.size+1) aK
  by_cases e0:m=0
  ·
   subst e0
   cases hi:inB s ⟨cH,cM,cN,cO,cP,dn⟩
   ·
    by_cases hk:cH=1
    ·
     have fk:(cH != 1)=false:=aL
     exact Ph
    ·
     have fk:(cH != 1)=true:=aL
     exact Ph
   ·
    by_cases hk:cH=1
    ·
     have fk:(cH != 1)=false:=aL
     have HC:=hide (show eb s 1 ⟨cH,cM,cN,cO,cP,dn⟩=true by unfold eb;rw[hi];simp[hk])
     exact ya
    ·
     have fk:(cH != 1)=true:=aL
     exact Ph
  obtain rfl:m=1:=by omega
  have mz:=hm.out aB
  have RR:=hide (show eV s 2 [a]=true by rw[HP.out,mz.out];first | done | rfl)
  exact ov
theorem qo (s:cv) (its:List cw) (h:its.length≠1):js s 3 its:=by
 intro S S' q w Ai ci hs hR
 have HS:=hide hs
 have hq:=hs.1
 have gM:¬q=w.heap.size:=aB
 have HR:=hide hR
 have hlen:=hR.1
 have hcm:=hR.2.1
 simp only[aj,az,aA,Nat.reduceAdd]at hlen
 unfold maxLen at hcm
 clear hR hs
 have RR:=hide (gE (s:=s) (op:=3) (its:=its) (by rw[show (cW 3).length=1 by decide];omega))
 have f1:((its.length:Int) != 1)=true:=aH
 exact pj
theorem KL (s:cv) (a:cw):js s 3 [a]:=by
 intro S S' q w Ai ci hs hR
 have HS:=hide hs
 have hq:=hs.1
 have gM:¬q=w.heap.size:=aB
 have HR:=hide hR
 have hlen:=hR.1
 have hcm:=hR.2.1
 simp only[aj,az,aA,Nat.reduceAdd]at hlen
 unfold maxLen at hcm
 clear hR hs
 have hbw0:cE w w:=cE.refl w
 (obtain⟨b1,o1,cH,cM,cN,cO,cP,dn,hA1,hS1,hl1,hx1,hv1,eY,eG,fa,dY,er,gw,db,de,dq,dy,dz,dU⟩:=cw.at HR.out 0 aK;subst hA1;have jh:=hide (Dat.cC.bel hbw0 hv1);have hh1:=hbw0.box b1 hl1;have hw1:=ak hl1 (cE.size hbw0);replace db:=(hh1 _).trans db;replace de:=(hh1 _).trans de;replace dq:=(hh1 _).trans dq;replace dy:=(hh1 _).trans dy;replace dz:=(hh1 _).trans dz;replace dU:=(hh1 _).trans dU;have gv:=hide hx1;clear hh1 hv1 hx1 hS1;simp only[Nat.zero_mul,Nat.one_mul,Nat.add_zero,Nat.reduceMul,Nat.add_assoc,Nat.reduceAdd]at db de dq dy dz dU)
 have hne1:¬b1=w.heap.size:=aB
 have hne2:¬b1=w.heap.size+1:=aB
 have HP:Hid (eV s 3 [a]=(eb s 1 ⟨cH,cM,cN,cO,cP,dn⟩)):=by
  show _=_
  unfold eV;rw[show cW 3=[1] by decide]
  exact rm
 clear hbw0
 go_enter Tryz.func97,Tryz.ntmps97
 go_wp2_with (fail)
 repeat (any_goals (go_quiet (fail);(try go_wp2_with (fail))))
 go_loopw [80] (fun v wr=>∃m:Nat,v=.int .i64 m/\m<=1/\Hid ((1<=m->Hid (eb s 1 ⟨cH,cM,cN,cO,cP,dn⟩=true)))/\cE ((w.alloc (.cells #[] 3)).alloc (.cells #[.int .i64 1] 3)) wr) (fun v _=>1 - (intOf v).toNat)
 case atStart=>exact⟨0,rfl,by omega,fun h=>absurd h aB,bl⟩
 case round =>
  obtain⟨m,rfl,m1,hm,hbx⟩:=hrel
  have hbw:cE w wr:=cE.trans bl hbx
  have hz:=hbx.size
  simp only[World.size_alloc]at hz
  have hcb0:=hbw.box b1 aB
  have hk0:=hbx.box (w.heap.size+1) aK
  by_cases e0:m=0
  ·
   subst e0
   cases hi:inB s ⟨cH,cM,cN,cO,cP,dn⟩
   ·
    by_cases hk:cH=1
    ·
     have fk:(cH != 1)=false:=aL
     exact Pj
    ·
     have fk:(cH != 1)=true:=aL
     exact Pj
   ·
    by_cases hk:cH=1
    ·
     have fk:(cH != 1)=false:=aL
     have HC:=hide (show eb s 1 ⟨cH,cM,cN,cO,cP,dn⟩=true by unfold eb;rw[hi];simp[hk])
     exact ya
    ·
     have fk:(cH != 1)=true:=aL
     exact Pj
  obtain rfl:m=1:=by omega
  have mz:=hm.out aB
  have RR:=hide (show eV s 3 [a]=true by rw[HP.out,mz.out];first | done | rfl)
  exact ov
theorem qp (s:cv) (its:List cw) (h:its.length≠1):js s 4 its:=by
 intro S S' q w Ai ci hs hR
 have HS:=hide hs
 have hq:=hs.1
 have gM:¬q=w.heap.size:=aB
 have HR:=hide hR
 have hlen:=hR.1
 have hcm:=hR.2.1
 simp only[aj,az,aA,Nat.reduceAdd]at hlen
 unfold maxLen at hcm
 clear hR hs
 have RR:=hide (gE (s:=s) (op:=4) (its:=its) (by rw[show (cW 4).length=1 by decide];omega))
 have f1:((its.length:Int) != 1)=true:=aH
 exact pj
theorem KM (s:cv) (a:cw):js s 4 [a]:=by
 intro S S' q w Ai ci hs hR
 have HS:=hide hs
 have hq:=hs.1
 have gM:¬q=w.heap.size:=aB
 have HR:=hide hR
 have hlen:=hR.1
 have hcm:=hR.2.1
 simp only[aj,az,aA,Nat.reduceAdd]at hlen
 unfold maxLen at hcm
 clear hR hs
 have hbw0:cE w w:=cE.refl w
 (obtain⟨b1,o1,cH,cM,cN,cO,cP,dn,hA1,hS1,hl1,hx1,hv1,eY,eG,fa,dY,er,gw,db,de,dq,dy,dz,dU⟩:=cw.at HR.out 0 aK;subst hA1;have jh:=hide (Dat.cC.bel hbw0 hv1);have hh1:=hbw0.box b1 hl1;have hw1:=ak hl1 (cE.size hbw0);replace db:=(hh1 _).trans db;replace de:=(hh1 _).trans de;replace dq:=(hh1 _).trans dq;replace dy:=(hh1 _).trans dy;replace dz:=(hh1 _).trans dz;replace dU:=(hh1 _).trans dU;have gv:=hide hx1;clear hh1 hv1 hx1 hS1;simp only[Nat.zero_mul,Nat.one_mul,Nat.add_zero,Nat.reduceMul,Nat.add_assoc,Nat.reduceAdd]at db de dq dy dz dU)
 have hne1:¬b1=w.heap.size:=aB
 have hne2:¬b1=w.heap.size+1:=aB
 have HP:Hid (eV s 4 [a]=(eb s 1 ⟨cH,cM,cN,cO,cP,dn⟩)):=by
  show _=_
  unfold eV;rw[show cW 4=[1] by decide]
  exact rm
 clear hbw0
 go_enter Tryz.func97,Tryz.ntmps97
 go_wp2_with (fail)
 repeat (any_goals (go_quiet (fail);(try go_wp2_with (fail))))
 go_loopw [80] (fun v wr=>∃m:Nat,v=.int .i64 m/\m<=1/\Hid ((1<=m->Hid (eb s 1 ⟨cH,cM,cN,cO,cP,dn⟩=true)))/\cE ((w.alloc (.cells #[] 3)).alloc (.cells #[.int .i64 1] 3)) wr) (fun v _=>1 - (intOf v).toNat)
 case atStart=>exact⟨0,rfl,by omega,fun h=>absurd h aB,bl⟩
 case round =>
  obtain⟨m,rfl,m1,hm,hbx⟩:=hrel
  have hbw:cE w wr:=cE.trans bl hbx
  have hz:=hbx.size
  simp only[World.size_alloc]at hz
  have hcb0:=hbw.box b1 aB
  have hk0:=hbx.box (w.heap.size+1) aK
  by_cases e0:m=0
  ·
   subst e0
   cases hi:inB s ⟨cH,cM,cN,cO,cP,dn⟩
   ·
    by_cases hk:cH=1
    ·
     have fk:(cH != 1)=false:=aL
     exact Pk
    ·
     have fk:(cH != 1)=true:=aL
     exact Pk
   ·
    by_cases hk:cH=1
    ·
     have fk:(cH != 1)=false:=aL
     have HC:=hide (show eb s 1 ⟨cH,cM,cN,cO,cP,dn⟩=true by unfold eb;rw[hi];simp[hk])
     exact ya
    ·
     have fk:(cH != 1)=true:=aL
     exact Pk
  obtain rfl:m=1:=by omega
  have mz:=hm.out aB
  have RR:=hide (show eV s 4 [a]=true by rw[HP.out,mz.out];first | done | rfl)
  exact ov
theorem qq (s:cv) (its:List cw) (h:its.length≠1):js s 5 its:=by
 intro S S' q w Ai ci hs hR
 have HS:=hide hs
 have hq:=hs.1
 have gM:¬q=w.heap.size:=aB
 have HR:=hide hR
 have hlen:=hR.1
 have hcm:=hR.2.1
 simp only[aj,az,aA,Nat.reduceAdd]at hlen
 unfold maxLen at hcm
 clear hR hs
 have RR:=hide (gE (s:=s) (op:=5) (its:=its) (by rw[show (cW 5).length=1 by decide];omega))
 have f1:((its.length:Int) != 1)=true:=aH
 exact pj
theorem KN (s:cv) (a:cw):js s 5 [a]:=by
 intro S S' q w Ai ci hs hR
 have HS:=hide hs
 have hq:=hs.1
 have gM:¬q=w.heap.size:=aB
 have HR:=hide hR
 have hlen:=hR.1
 have hcm:=hR.2.1
 simp only[aj,az,aA,Nat.reduceAdd]at hlen
 unfold maxLen at hcm
 clear hR hs
 have hbw0:cE w w:=cE.refl w
 (obtain⟨b1,o1,cH,cM,cN,cO,cP,dn,hA1,hS1,hl1,hx1,hv1,eY,eG,fa,dY,er,gw,db,de,dq,dy,dz,dU⟩:=cw.at HR.out 0 aK;subst hA1;have jh:=hide (Dat.cC.bel hbw0 hv1);have hh1:=hbw0.box b1 hl1;have hw1:=ak hl1 (cE.size hbw0);replace db:=(hh1 _).trans db;replace de:=(hh1 _).trans de;replace dq:=(hh1 _).trans dq;replace dy:=(hh1 _).trans dy;replace dz:=(hh1 _).trans dz;replace dU:=(hh1 _).trans dU;have gv:=hide hx1;clear hh1 hv1 hx1 hS1;simp only[Nat.zero_mul,Nat.one_mul,Nat.add_zero,Nat.reduceMul,Nat.add_assoc,Nat.reduceAdd]at db de dq dy dz dU)
 have hne1:¬b1=w.heap.size:=aB
 have hne2:¬b1=w.heap.size+1:=aB
 have HP:Hid (eV s 5 [a]=(eb s 1 ⟨cH,cM,cN,cO,cP,dn⟩)):=by
  show _=_
  unfold eV;rw[show cW 5=[1] by decide]
  exact rm
 clear hbw0
 go_enter Tryz.func97,Tryz.ntmps97
 go_wp2_with (fail)
 repeat (any_goals (go_quiet (fail);(try go_wp2_with (fail))))
 go_loopw [80] (fun v wr=>∃m:Nat,v=.int .i64 m/\m<=1/\Hid ((1<=m->Hid (eb s 1 ⟨cH,cM,cN,cO,cP,dn⟩=true)))/\cE ((w.alloc (.cells #[] 3)).alloc (.cells #[.int .i64 1] 3)) wr) (fun v _=>1 - (intOf v).toNat)
 case atStart=>exact⟨0,rfl,by omega,fun h=>absurd h aB,bl⟩
 case round =>
  obtain⟨m,rfl,m1,hm,hbx⟩:=hrel
  have hbw:cE w wr:=cE.trans bl hbx
  have hz:=hbx.size
  simp only[World.size_alloc]at hz
  have hcb0:=hbw.box b1 aB
  have hk0:=hbx.box (w.heap.size+1) aK
  by_cases e0:m=0
  ·
   subst e0
   cases hi:inB s ⟨cH,cM,cN,cO,cP,dn⟩
   ·
    by_cases hk:cH=1
    ·
     have fk:(cH != 1)=false:=aL
     exact Pl
    ·
     have fk:(cH != 1)=true:=aL
     exact Pl
   ·
    by_cases hk:cH=1
    ·
     have fk:(cH != 1)=false:=aL
     have HC:=hide (show eb s 1 ⟨cH,cM,cN,cO,cP,dn⟩=true by unfold eb;rw[hi];simp[hk])
     exact ya
    ·
     have fk:(cH != 1)=true:=aL
     exact Pl
  obtain rfl:m=1:=by omega
  have mz:=hm.out aB
  have RR:=hide (show eV s 5 [a]=true by rw[HP.out,mz.out];first | done | rfl)
  exact ov
theorem qs (s:cv) (its:List cw) (h:its.length≠1):js s 6 its:=by
 intro S S' q w Ai ci hs hR
 have HS:=hide hs
 have hq:=hs.1
 have gM:¬q=w.heap.size:=aB
 have HR:=hide hR
 have hlen:=hR.1
 have hcm:=hR.2.1
 simp only[aj,az,aA,Nat.reduceAdd]at hlen
 unfold maxLen at hcm
 clear hR hs
 have RR:=hide (gE (s:=s) (op:=6) (its:=its) (by rw[show (cW 6).length=1 by decide];omega))
 have f1:((its.length:Int) != 1)=true:=aH
 exact pj
theorem KO (s:cv) (a:cw):js s 6 [a]:=by
 intro S S' q w Ai ci hs hR
 have HS:=hide hs
 have hq:=hs.1
 have gM:¬q=w.heap.size:=aB
 have HR:=hide hR
 have hlen:=hR.1
 have hcm:=hR.2.1
 simp only[aj,az,aA,Nat.reduceAdd]at hlen
 unfold maxLen at hcm
 clear hR hs
 have hbw0:cE w w:=cE.refl w
 (obtain⟨b1,o1,cH,cM,cN,cO,cP,dn,hA1,hS1,hl1,hx1,hv1,eY,eG,fa,dY,er,gw,db,de,dq,dy,dz,dU⟩:=cw.at HR.out 0 aK;subst hA1;have jh:=hide (Dat.cC.bel hbw0 hv1);have hh1:=hbw0.box b1 hl1;have hw1:=ak hl1 (cE.size hbw0);replace db:=(hh1 _).trans db;replace de:=(hh1 _).trans de;replace dq:=(hh1 _).trans dq;replace dy:=(hh1 _).trans dy;replace dz:=(hh1 _).trans dz;replace dU:=(hh1 _).trans dU;have gv:=hide hx1;clear hh1 hv1 hx1 hS1;simp only[Nat.zero_mul,Nat.one_mul,Nat.add_zero,Nat.reduceMul,Nat.add_assoc,Nat.reduceAdd]at db de dq dy dz dU)
 have hne1:¬b1=w.heap.size:=aB
 have hne2:¬b1=w.heap.size+1:=aB
 have HP:Hid (eV s 6 [a]=(eb s 1 ⟨cH,cM,cN,cO,cP,dn⟩)):=by
  show _=_
  unfold eV;rw[show cW 6=[1] by decide]
  exact rm
 clear hbw0
 go_enter Tryz.func97,Tryz.ntmps97
 go_wp2_with (fail)
 repeat (any_goals (go_quiet (fail);(try go_wp2_with (fail))))
 go_loopw [80] (fun v wr=>∃m:Nat,v=.int .i64 m/\m<=1/\Hid ((1<=m->Hid (eb s 1 ⟨cH,cM,cN,cO,cP,dn⟩=true)))/\cE ((w.alloc (.cells #[] 3)).alloc (.cells #[.int .i64 1] 3)) wr) (fun v _=>1 - (intOf v).toNat)
 case atStart=>exact⟨0,rfl,by omega,fun h=>absurd h aB,bl⟩
 case round =>
  obtain⟨m,rfl,m1,hm,hbx⟩:=hrel
  have hbw:cE w wr:=cE.trans bl hbx
  have hz:=hbx.size
  simp only[World.size_alloc]at hz
  have hcb0:=hbw.box b1 aB
  have hk0:=hbx.box (w.heap.size+1) aK
  by_cases e0:m=0
  ·
   subst e0
   cases hi:inB s ⟨cH,cM,cN,cO,cP,dn⟩
   ·
    by_cases hk:cH=1
    ·
     have fk:(cH != 1)=false:=aL
     exact Pm
    ·
     have fk:(cH != 1)=true:=aL
     exact Pm
   ·
    by_cases hk:cH=1
    ·
     have fk:(cH != 1)=false:=aL
     have HC:=hide (show eb s 1 ⟨cH,cM,cN,cO,cP,dn⟩=true by unfold eb;rw[hi];simp[hk])
     exact ya
    ·
     have fk:(cH != 1)=true:=aL
     exact Pm
  obtain rfl:m=1:=by omega
  have mz:=hm.out aB
  have RR:=hide (show eV s 6 [a]=true by rw[HP.out,mz.out];first | done | rfl)
  exact ov
theorem qt (s:cv) (its:List cw) (h:its.length≠1):js s 7 its:=by
 intro S S' q w Ai ci hs hR
 have HS:=hide hs
 have hq:=hs.1
 have gM:¬q=w.heap.size:=aB
 have HR:=hide hR
 have hlen:=hR.1
 have hcm:=hR.2.1
 simp only[aj,az,aA,Nat.reduceAdd]at hlen
 unfold maxLen at hcm
 clear hR hs
 have RR:=hide (gE (s:=s) (op:=7) (its:=its) (by rw[show (cW 7).length=1 by decide];omega))
 have f1:((its.length:Int) != 1)=true:=aH
 exact pj
theorem KP (s:cv) (a:cw):js s 7 [a]:=by
 intro S S' q w Ai ci hs hR
 have HS:=hide hs
 have hq:=hs.1
 have gM:¬q=w.heap.size:=aB
 have HR:=hide hR
 have hlen:=hR.1
 have hcm:=hR.2.1
 simp only[aj,az,aA,Nat.reduceAdd]at hlen
 unfold maxLen at hcm
 clear hR hs
 have hbw0:cE w w:=cE.refl w
 (obtain⟨b1,o1,cH,cM,cN,cO,cP,dn,hA1,hS1,hl1,hx1,hv1,eY,eG,fa,dY,er,gw,db,de,dq,dy,dz,dU⟩:=cw.at HR.out 0 aK;subst hA1;have jh:=hide (Dat.cC.bel hbw0 hv1);have hh1:=hbw0.box b1 hl1;have hw1:=ak hl1 (cE.size hbw0);replace db:=(hh1 _).trans db;replace de:=(hh1 _).trans de;replace dq:=(hh1 _).trans dq;replace dy:=(hh1 _).trans dy;replace dz:=(hh1 _).trans dz;replace dU:=(hh1 _).trans dU;have gv:=hide hx1;clear hh1 hv1 hx1 hS1;simp only[Nat.zero_mul,Nat.one_mul,Nat.add_zero,Nat.reduceMul,Nat.add_assoc,Nat.reduceAdd]at db de dq dy dz dU)
 have hne1:¬b1=w.heap.size:=aB
 have hne2:¬b1=w.heap.size+1:=aB
 have HP:Hid (eV s 7 [a]=(eb s 3 ⟨cH,cM,cN,cO,cP,dn⟩)):=by
  show _=_
  unfold eV;rw[show cW 7=[3] by decide]
  exact rm
 clear hbw0
 go_enter Tryz.func97,Tryz.ntmps97
 go_wp2_with (fail)
 repeat (any_goals (go_quiet (fail);(try go_wp2_with (fail))))
 go_loopw [80] (fun v wr=>∃m:Nat,v=.int .i64 m/\m<=1/\Hid ((1<=m->Hid (eb s 3 ⟨cH,cM,cN,cO,cP,dn⟩=true)))/\cE ((w.alloc (.cells #[] 3)).alloc (.cells #[.int .i64 3] 3)) wr) (fun v _=>1 - (intOf v).toNat)
 case atStart=>exact⟨0,rfl,by omega,fun h=>absurd h aB,bl⟩
 case round =>
  obtain⟨m,rfl,m1,hm,hbx⟩:=hrel
  have hbw:cE w wr:=cE.trans bl hbx
  have hz:=hbx.size
  simp only[World.size_alloc]at hz
  have hcb0:=hbw.box b1 aB
  have hk0:=hbx.box (w.heap.size+1) aK
  by_cases e0:m=0
  ·
   subst e0
   cases hi:inB s ⟨cH,cM,cN,cO,cP,dn⟩
   ·
    by_cases hk:cH=3
    ·
     have fk:(cH != 3)=false:=aL
     exact Pn
    ·
     have fk:(cH != 3)=true:=aL
     exact Pn
   ·
    by_cases hk:cH=3
    ·
     have fk:(cH != 3)=false:=aL
     have HC:=hide (show eb s 3 ⟨cH,cM,cN,cO,cP,dn⟩=true by unfold eb;rw[hi];simp[hk])
     exact ya
    ·
     have fk:(cH != 3)=true:=aL
     exact Pn
  obtain rfl:m=1:=by omega
  have mz:=hm.out aB
  have RR:=hide (show eV s 7 [a]=true by rw[HP.out,mz.out];first | done | rfl)
  exact ov
theorem qu (s:cv) (its:List cw) (h:its.length≠1):js s 8 its:=by
 intro S S' q w Ai ci hs hR
 have HS:=hide hs
 have hq:=hs.1
 have gM:¬q=w.heap.size:=aB
 have HR:=hide hR
 have hlen:=hR.1
 have hcm:=hR.2.1
 simp only[aj,az,aA,Nat.reduceAdd]at hlen
 unfold maxLen at hcm
 clear hR hs
 have RR:=hide (gE (s:=s) (op:=8) (its:=its) (by rw[show (cW 8).length=1 by decide];omega))
 have f1:((its.length:Int) != 1)=true:=aH
 exact pj
theorem KQ (s:cv) (a:cw):js s 8 [a]:=by
 intro S S' q w Ai ci hs hR
 have HS:=hide hs
 have hq:=hs.1
 have gM:¬q=w.heap.size:=aB
 have HR:=hide hR
 have hlen:=hR.1
 have hcm:=hR.2.1
 simp only[aj,az,aA,Nat.reduceAdd]at hlen
 unfold maxLen at hcm
 clear hR hs
 have hbw0:cE w w:=cE.refl w
 (obtain⟨b1,o1,cH,cM,cN,cO,cP,dn,hA1,hS1,hl1,hx1,hv1,eY,eG,fa,dY,er,gw,db,de,dq,dy,dz,dU⟩:=cw.at HR.out 0 aK;subst hA1;have jh:=hide (Dat.cC.bel hbw0 hv1);have hh1:=hbw0.box b1 hl1;have hw1:=ak hl1 (cE.size hbw0);replace db:=(hh1 _).trans db;replace de:=(hh1 _).trans de;replace dq:=(hh1 _).trans dq;replace dy:=(hh1 _).trans dy;replace dz:=(hh1 _).trans dz;replace dU:=(hh1 _).trans dU;have gv:=hide hx1;clear hh1 hv1 hx1 hS1;simp only[Nat.zero_mul,Nat.one_mul,Nat.add_zero,Nat.reduceMul,Nat.add_assoc,Nat.reduceAdd]at db de dq dy dz dU)
 have hne1:¬b1=w.heap.size:=aB
 have hne2:¬b1=w.heap.size+1:=aB
 have HP:Hid (eV s 8 [a]=(eb s 3 ⟨cH,cM,cN,cO,cP,dn⟩)):=by
  show _=_
  unfold eV;rw[show cW 8=[3] by decide]
  exact rm
 clear hbw0
 go_enter Tryz.func97,Tryz.ntmps97
 go_wp2_with (fail)
 repeat (any_goals (go_quiet (fail);(try go_wp2_with (fail))))
 go_loopw [80] (fun v wr=>∃m:Nat,v=.int .i64 m/\m<=1/\Hid ((1<=m->Hid (eb s 3 ⟨cH,cM,cN,cO,cP,dn⟩=true)))/\cE ((w.alloc (.cells #[] 3)).alloc (.cells #[.int .i64 3] 3)) wr) (fun v _=>1 - (intOf v).toNat)
 case atStart=>exact⟨0,rfl,by omega,fun h=>absurd h aB,bl⟩
 case round =>
  obtain⟨m,rfl,m1,hm,hbx⟩:=hrel
  have hbw:cE w wr:=cE.trans bl hbx
  have hz:=hbx.size
  simp only[World.size_alloc]at hz
  have hcb0:=hbw.box b1 aB
  have hk0:=hbx.box (w.heap.size+1) aK
  by_cases e0:m=0
  ·
   subst e0
   cases hi:inB s ⟨cH,cM,cN,cO,cP,dn⟩
   ·
    by_cases hk:cH=3
    ·
     have fk:(cH != 3)=false:=aL
     exact Po
    ·
     have fk:(cH != 3)=true:=aL
     exact Po
   ·
    by_cases hk:cH=3
    ·
     have fk:(cH != 3)=false:=aL
     have HC:=hide (show eb s 3 ⟨cH,cM,cN,cO,cP,dn⟩=true by unfold eb;rw[hi];simp[hk])
     exact ya
    ·
     have fk:(cH != 3)=true:=aL
     exact Po
  obtain rfl:m=1:=by omega
  have mz:=hm.out aB
  have RR:=hide (show eV s 8 [a]=true by rw[HP.out,mz.out];first | done | rfl)
  exact ov
theorem qv (s:cv) (its:List cw) (h:its.length≠1):js s 9 its:=by
 intro S S' q w Ai ci hs hR
 have HS:=hide hs
 have hq:=hs.1
 have gM:¬q=w.heap.size:=aB
 have HR:=hide hR
 have hlen:=hR.1
 have hcm:=hR.2.1
 simp only[aj,az,aA,Nat.reduceAdd]at hlen
 unfold maxLen at hcm
 clear hR hs
 have RR:=hide (gE (s:=s) (op:=9) (its:=its) (by rw[show (cW 9).length=1 by decide];omega))
 have f1:((its.length:Int) != 1)=true:=aH
 exact pj
theorem KR (s:cv) (a:cw):js s 9 [a]:=by
 intro S S' q w Ai ci hs hR
 have HS:=hide hs
 have hq:=hs.1
 have gM:¬q=w.heap.size:=aB
 have HR:=hide hR
 have hlen:=hR.1
 have hcm:=hR.2.1
 simp only[aj,az,aA,Nat.reduceAdd]at hlen
 unfold maxLen at hcm
 clear hR hs
 have hbw0:cE w w:=cE.refl w
 (obtain⟨b1,o1,cH,cM,cN,cO,cP,dn,hA1,hS1,hl1,hx1,hv1,eY,eG,fa,dY,er,gw,db,de,dq,dy,dz,dU⟩:=cw.at HR.out 0 aK;subst hA1;have jh:=hide (Dat.cC.bel hbw0 hv1);have hh1:=hbw0.box b1 hl1;have hw1:=ak hl1 (cE.size hbw0);replace db:=(hh1 _).trans db;replace de:=(hh1 _).trans de;replace dq:=(hh1 _).trans dq;replace dy:=(hh1 _).trans dy;replace dz:=(hh1 _).trans dz;replace dU:=(hh1 _).trans dU;have gv:=hide hx1;clear hh1 hv1 hx1 hS1;simp only[Nat.zero_mul,Nat.one_mul,Nat.add_zero,Nat.reduceMul,Nat.add_assoc,Nat.reduceAdd]at db de dq dy dz dU)
 have hne1:¬b1=w.heap.size:=aB
 have hne2:¬b1=w.heap.size+1:=aB
 have HP:Hid (eV s 9 [a]=(eb s 3 ⟨cH,cM,cN,cO,cP,dn⟩)):=by
  show _=_
  unfold eV;rw[show cW 9=[3] by decide]
  exact rm
 clear hbw0
 go_enter Tryz.func97,Tryz.ntmps97
 go_wp2_with (fail)
 repeat (any_goals (go_quiet (fail);(try go_wp2_with (fail))))
 go_loopw [80] (fun v wr=>∃m:Nat,v=.int .i64 m/\m<=1/\Hid ((1<=m->Hid (eb s 3 ⟨cH,cM,cN,cO,cP,dn⟩=true)))/\cE ((w.alloc (.cells #[] 3)).alloc (.cells #[.int .i64 3] 3)) wr) (fun v _=>1 - (intOf v).toNat)
 case atStart=>exact⟨0,rfl,by omega,fun h=>absurd h aB,bl⟩
 case round =>
  obtain⟨m,rfl,m1,hm,hbx⟩:=hrel
  have hbw:cE w wr:=cE.trans bl hbx
  have hz:=hbx.size
  simp only[World.size_alloc]at hz
  have hcb0:=hbw.box b1 aB
  have hk0:=hbx.box (w.heap.size+1) aK
  by_cases e0:m=0
  ·
   subst e0
   cases hi:inB s ⟨cH,cM,cN,cO,cP,dn⟩
   ·
    by_cases hk:cH=3
    ·
     have fk:(cH != 3)=false:=aL
     exact Pp
    ·
     have fk:(cH != 3)=true:=aL
     exact Pp
   ·
    by_cases hk:cH=3
    ·
     have fk:(cH != 3)=false:=aL
     have HC:=hide (show eb s 3 ⟨cH,cM,cN,cO,cP,dn⟩=true by unfold eb;rw[hi];simp[hk])
     exact ya
    ·
     have fk:(cH != 3)=true:=aL
     exact Pp
  obtain rfl:m=1:=by omega
  have mz:=hm.out aB
  have RR:=hide (show eV s 9 [a]=true by rw[HP.out,mz.out];first | done | rfl)
  exact ov
end Go.Proofs.YtjngkknbpfgdcaaGreatDoor
