import Derived.Test.YtjngkknbpfgdcaaGreatDoorPr
import Derived.Test.YtjngkknbpfgdcaaGreatDoorPS3z
set_option linter.unusedVariables false
set_option linter.unusedSimpArgs false
set_option maxRecDepth 100000
set_option maxHeartbeats 8000000
namespace Go.Proofs.YtjngkknbpfgdcaaGreatDoor
open Go.RowKit
--%quiet
theorem pk (s:cv) (its:List cw) (h:its.length≠1):js s 10 its:=by
 intro S S' q w Ai ci hs hR
 have HS:=hide hs
 have hq:=hs.1
 have gM:¬q=w.heap.size:=aB
 have HR:=hide hR
 have hlen:=hR.1
 have hcm:=hR.2.1
 simp only[aj,az,aA,Nat.reduceAdd]at hlen
 unfold maxLen at hcm
 clear hR hs
 have RR:=hide (gE (s:=s) (op:=10) (its:=its) (by rw[show (cW 10).length=1 by decide];omega))
 have f1:((its.length:Int) != 1)=true:=aH
 exact pj
theorem GW (s:cv) (a:cw):js s 10 [a]:=by
 intro S S' q w Ai ci hs hR
 have HS:=hide hs
 have hq:=hs.1
 have gM:¬q=w.heap.size:=aB
 have HR:=hide hR
 have hlen:=hR.1
 have hcm:=hR.2.1
 simp only[aj,az,aA,Nat.reduceAdd]at hlen
 unfold maxLen at hcm
 clear hR hs
 have hbw0:cE w w:=cE.refl w
 (obtain⟨b1,o1,cH,cM,cN,cO,cP,dn,hA1,hS1,hl1,hx1,hv1,eY,eG,fa,dY,er,gw,db,de,dq,dy,dz,dU⟩:=cw.at HR.out 0 aK;subst hA1;have jh:=hide (Dat.cC.bel hbw0 hv1);have hh1:=hbw0.box b1 hl1;have hw1:=ak hl1 (cE.size hbw0);replace db:=(hh1 _).trans db;replace de:=(hh1 _).trans de;replace dq:=(hh1 _).trans dq;replace dy:=(hh1 _).trans dy;replace dz:=(hh1 _).trans dz;replace dU:=(hh1 _).trans dU;have gv:=hide hx1;clear hh1 hv1 hx1 hS1;simp only[Nat.zero_mul,Nat.one_mul,Nat.add_zero,Nat.reduceMul,Nat.add_assoc,Nat.reduceAdd]at db de dq dy dz dU)
 have hne1:¬b1=w.heap.size:=aB
 have hne2:¬b1=w.heap.size+1:=aB
 have HP:Hid (eV s 10 [a]=(eb s 3 ⟨cH,cM,cN,cO,cP,dn⟩)):=by
  show _=_
  unfold eV;rw[show cW 10=[3] by decide]
  exact rm
 clear hbw0
 go_enter Tryz.func97,Tryz.ntmps97
 go_wp2_with (fail)
 repeat (any_goals (go_quiet (fail);(try go_wp2_with (fail))))
 go_loopw [80] (fun v wr=>∃m:Nat,v=.int .i64 m/\m<=1/\Hid ((1<=m->Hid (eb s 3 ⟨cH,cM,cN,cO,cP,dn⟩=true)))/\cE ((w.alloc (.cells #[] 3)).alloc (.cells #[.int .i64 3] 3)) wr) (fun v _=>1 - (intOf v).toNat)
 case atStart=>exact⟨0,rfl,by omega,fun h=>absurd h aB,bl⟩
 case round =>
  obtain⟨m,rfl,m1,hm,hbx⟩:=hrel
  have hbw:cE w wr:=cE.trans bl hbx
  have hz:=hbx.size
  simp only[World.size_alloc]at hz
  have hcb0:=hbw.box b1 aB
  have hk0:=hbx.box (w.heap.size+1) aK
  by_cases e0:m=0
  ·
   subst e0
   cases hi:inB s ⟨cH,cM,cN,cO,cP,dn⟩
   ·
    by_cases hk:cH=3
    ·
     have fk:(cH != 3)=false:=aL
     exact Pq
    ·
     have fk:(cH != 3)=true:=aL
     exact Pq
   ·
    by_cases hk:cH=3
    ·
     have fk:(cH != 3)=false:=aL
     have HC:=hide (show eb s 3 ⟨cH,cM,cN,cO,cP,dn⟩=true by unfold eb;rw[hi];simp[hk])
     exact ya
    ·
     have fk:(cH != 3)=true:=aL
     exact Pq
  obtain rfl:m=1:=by omega
  have mz:=hm.out aB
  have RR:=hide (show eV s 10 [a]=true by rw[HP.out,mz.out];first | done | rfl)
  exact ov
theorem pn (s:cv) (its:List cw) (h:its.length≠0):js s 11 its:=by
 intro S S' q w Ai ci hs hR
 have HS:=hide hs
 have hq:=hs.1
 have gM:¬q=w.heap.size:=aB
 have HR:=hide hR
 have hlen:=hR.1
 have hcm:=hR.2.1
 simp only[aj,az,aA,Nat.reduceAdd]at hlen
 unfold maxLen at hcm
 clear hR hs
 have RR:=hide (gE (s:=s) (op:=11) (its:=its) (by rw[show (cW 11).length=0 by decide];omega))
 have f1:((its.length:Int) != 0)=true:=aH
 exact pj
theorem GX (s:cv):js s 11 []:=by
 intro S S' q w Ai ci hs hR
 have HS:=hide hs
 have hq:=hs.1
 have gM:¬q=w.heap.size:=aB
 have HR:=hide hR
 have hlen:=hR.1
 have hcm:=hR.2.1
 simp only[aj,az,aA,Nat.reduceAdd]at hlen
 unfold maxLen at hcm
 clear hR hs
 have hbw0:cE w w:=cE.refl w
 have HP:Hid (eV s 11 []=(true)):=by
  show _=_
  unfold eV;rw[show cW 11=[] by decide]
  simp[all2]
 exact KS
theorem po (s:cv) (its:List cw) (h:its.length≠0):js s 12 its:=by
 intro S S' q w Ai ci hs hR
 have HS:=hide hs
 have hq:=hs.1
 have gM:¬q=w.heap.size:=aB
 have HR:=hide hR
 have hlen:=hR.1
 have hcm:=hR.2.1
 simp only[aj,az,aA,Nat.reduceAdd]at hlen
 unfold maxLen at hcm
 clear hR hs
 have RR:=hide (gE (s:=s) (op:=12) (its:=its) (by rw[show (cW 12).length=0 by decide];omega))
 have f1:((its.length:Int) != 0)=true:=aH
 exact pj
theorem GY (s:cv):js s 12 []:=by
 intro S S' q w Ai ci hs hR
 have HS:=hide hs
 have hq:=hs.1
 have gM:¬q=w.heap.size:=aB
 have HR:=hide hR
 have hlen:=hR.1
 have hcm:=hR.2.1
 simp only[aj,az,aA,Nat.reduceAdd]at hlen
 unfold maxLen at hcm
 clear hR hs
 have hbw0:cE w w:=cE.refl w
 have HP:Hid (eV s 12 []=(true)):=by
  show _=_
  unfold eV;rw[show cW 12=[] by decide]
  simp[all2]
 exact KS
theorem pq (s:cv) (its:List cw) (h:its.length≠1):js s 13 its:=by
 intro S S' q w Ai ci hs hR
 have HS:=hide hs
 have hq:=hs.1
 have gM:¬q=w.heap.size:=aB
 have HR:=hide hR
 have hlen:=hR.1
 have hcm:=hR.2.1
 simp only[aj,az,aA,Nat.reduceAdd]at hlen
 unfold maxLen at hcm
 clear hR hs
 have RR:=hide (gE (s:=s) (op:=13) (its:=its) (by rw[show (cW 13).length=1 by decide];omega))
 have f1:((its.length:Int) != 1)=true:=aH
 exact pj
theorem GZ (s:cv) (a:cw):js s 13 [a]:=by
 intro S S' q w Ai ci hs hR
 have HS:=hide hs
 have hq:=hs.1
 have gM:¬q=w.heap.size:=aB
 have HR:=hide hR
 have hlen:=hR.1
 have hcm:=hR.2.1
 simp only[aj,az,aA,Nat.reduceAdd]at hlen
 unfold maxLen at hcm
 clear hR hs
 have hbw0:cE w w:=cE.refl w
 (obtain⟨b1,o1,cH,cM,cN,cO,cP,dn,hA1,hS1,hl1,hx1,hv1,eY,eG,fa,dY,er,gw,db,de,dq,dy,dz,dU⟩:=cw.at HR.out 0 aK;subst hA1;have jh:=hide (Dat.cC.bel hbw0 hv1);have hh1:=hbw0.box b1 hl1;have hw1:=ak hl1 (cE.size hbw0);replace db:=(hh1 _).trans db;replace de:=(hh1 _).trans de;replace dq:=(hh1 _).trans dq;replace dy:=(hh1 _).trans dy;replace dz:=(hh1 _).trans dz;replace dU:=(hh1 _).trans dU;have gv:=hide hx1;clear hh1 hv1 hx1 hS1;simp only[Nat.zero_mul,Nat.one_mul,Nat.add_zero,Nat.reduceMul,Nat.add_assoc,Nat.reduceAdd]at db de dq dy dz dU)
 have hne1:¬b1=w.heap.size:=aB
 have hne2:¬b1=w.heap.size+1:=aB
 have HP:Hid (eV s 13 [a]=(eb s 12 ⟨cH,cM,cN,cO,cP,dn⟩)):=by
  show _=_
  unfold eV;rw[show cW 13=[12] by decide]
  exact rm
 clear hbw0
 go_enter Tryz.func97,Tryz.ntmps97
 go_wp2_with (fail)
 repeat (any_goals (go_quiet (fail);(try go_wp2_with (fail))))
 go_loopw [80] (fun v wr=>∃m:Nat,v=.int .i64 m/\m<=1/\Hid ((1<=m->Hid (eb s 12 ⟨cH,cM,cN,cO,cP,dn⟩=true)))/\cE ((w.alloc (.cells #[] 3)).alloc (.cells #[.int .i64 12] 3)) wr) (fun v _=>1 - (intOf v).toNat)
 case atStart=>exact⟨0,rfl,by omega,fun h=>absurd h aB,bl⟩
 case round =>
  obtain⟨m,rfl,m1,hm,hbx⟩:=hrel
  have hbw:cE w wr:=cE.trans bl hbx
  have hz:=hbx.size
  simp only[World.size_alloc]at hz
  have hcb0:=hbw.box b1 aB
  have hk0:=hbx.box (w.heap.size+1) aK
  by_cases e0:m=0
  ·
   subst e0
   cases hi:inB s ⟨cH,cM,cN,cO,cP,dn⟩
   ·
    by_cases hk:cH=12
    ·
     have fk:(cH != 12)=false:=aL
     exact Pr
    ·
     have fk:(cH != 12)=true:=aL
     exact Pr
   ·
    by_cases hk:cH=12
    ·
     have fk:(cH != 12)=false:=aL
     have HC:=hide (show eb s 12 ⟨cH,cM,cN,cO,cP,dn⟩=true by unfold eb;rw[hi];simp[hk])
     exact ya
    ·
     have fk:(cH != 12)=true:=aL
     exact Pr
  obtain rfl:m=1:=by omega
  have mz:=hm.out aB
  have RR:=hide (show eV s 13 [a]=true by rw[HP.out,mz.out];first | done | rfl)
  exact ov
theorem pt (s:cv) (its:List cw) (h:its.length≠2):js s 14 its:=by
 intro S S' q w Ai ci hs hR
 have HS:=hide hs
 have hq:=hs.1
 have gM:¬q=w.heap.size:=aB
 have HR:=hide hR
 have hlen:=hR.1
 have hcm:=hR.2.1
 simp only[aj,az,aA,Nat.reduceAdd]at hlen
 unfold maxLen at hcm
 clear hR hs
 have RR:=hide (gE (s:=s) (op:=14) (its:=its) (by rw[show (cW 14).length=2 by decide];omega))
 have f1:((its.length:Int) != 2)=true:=aH
 exact pj
theorem G5 (s:cv) (a:cw) (b:cw):js s 14 [a,b]:=by
 intro S S' q w Ai ci hs hR
 have HS:=hide hs
 have hq:=hs.1
 have gM:¬q=w.heap.size:=aB
 have HR:=hide hR
 have hlen:=hR.1
 have hcm:=hR.2.1
 simp only[aj,az,aA,Nat.reduceAdd]at hlen
 unfold maxLen at hcm
 clear hR hs
 have hbw0:cE w w:=cE.refl w
 (obtain⟨b1,o1,cH,cM,cN,cO,cP,dn,hA1,hS1,hl1,hx1,hv1,eY,eG,fa,dY,er,gw,db,de,dq,dy,dz,dU⟩:=cw.at HR.out 0 aK;subst hA1;have jh:=hide (Dat.cC.bel hbw0 hv1);have hh1:=hbw0.box b1 hl1;have hw1:=ak hl1 (cE.size hbw0);replace db:=(hh1 _).trans db;replace de:=(hh1 _).trans de;replace dq:=(hh1 _).trans dq;replace dy:=(hh1 _).trans dy;replace dz:=(hh1 _).trans dz;replace dU:=(hh1 _).trans dU;have gv:=hide hx1;clear hh1 hv1 hx1 hS1;simp only[Nat.zero_mul,Nat.one_mul,Nat.add_zero,Nat.reduceMul,Nat.add_assoc,Nat.reduceAdd]at db de dq dy dz dU)
 (obtain⟨b2,o2,dG,dN,dQ,dV,dW,dZ,hA2,hS2,hl2,hx2,hv2,kY,km,lh,gY,kn,lH,fq,ft,fC,fF,fG,fK⟩:=cw.at HR.out 1 aK;injection Option.some.inj hA2 with qb2 sL _;subst qb2 sL;have xN:=hide (Dat.cC.bel hbw0 hv2);have hh2:=hbw0.box b1 hl2;have hw2:=ak hl2 (cE.size hbw0);replace fq:=(hh2 _).trans fq;replace ft:=(hh2 _).trans ft;replace fC:=(hh2 _).trans fC;replace fF:=(hh2 _).trans fF;replace fG:=(hh2 _).trans fG;replace fK:=(hh2 _).trans fK;have oz:=hide hx2;clear hh2 hv2 hx2 hS2;simp only[Nat.zero_mul,Nat.one_mul,Nat.add_zero,Nat.reduceMul,Nat.add_assoc,Nat.reduceAdd]at fq ft fC fF fG fK)
 have hne1:¬b1=w.heap.size:=aB
 have hne2:¬b1=w.heap.size+1:=aB
 have HP:Hid (eV s 14 [a,b]=(eb s 12 ⟨cH,cM,cN,cO,cP,dn⟩&&eb s 12 ⟨dG,dN,dQ,dV,dW,dZ⟩)):=by
  show _=_
  unfold eV;rw[show cW 14=[12,12] by decide]
  exact I9
 clear hbw0
 go_enter Tryz.func97,Tryz.ntmps97
 go_wp2_with (fail)
 repeat (any_goals (go_quiet (fail);(try go_wp2_with (fail))))
 go_loopw [80] (fun v wr=>∃m:Nat,v=.int .i64 m/\m<=2/\Hid ((1<=m->Hid (eb s 12 ⟨cH,cM,cN,cO,cP,dn⟩=true))/\(2<=m->Hid (eb s 12 ⟨dG,dN,dQ,dV,dW,dZ⟩=true)))/\cE ((w.alloc (.cells #[] 3)).alloc (.cells #[.int .i64 12,.int .i64 12] 3)) wr) (fun v _=>2 - (intOf v).toNat)
 case atStart=>exact⟨0,rfl,by omega,⟨fun h=>absurd h aB,fun h=>absurd h aB⟩,bl⟩
 case round =>
  obtain⟨m,rfl,m1,hm,hbx⟩:=hrel
  have hbw:cE w wr:=cE.trans bl hbx
  have hz:=hbx.size
  simp only[World.size_alloc]at hz
  have hcb0:=hbw.box b1 aB
  have hk0:=hbx.box (w.heap.size+1) aK
  by_cases e0:m=0
  ·
   subst e0
   cases hi:inB s ⟨cH,cM,cN,cO,cP,dn⟩
   ·
    by_cases hk:cH=12
    ·
     have fk:(cH != 12)=false:=aL
     exact Ps
    ·
     have fk:(cH != 12)=true:=aL
     exact Ps
   ·
    by_cases hk:cH=12
    ·
     exact W8
    ·
     have fk:(cH != 12)=true:=aL
     exact Ps
  by_cases e1:m=1
  ·
   subst e1
   cases hi:inB s ⟨dG,dN,dQ,dV,dW,dZ⟩
   ·
    by_cases hk:dG=12
    ·
     have fk:(dG != 12)=false:=aL
     exact Pt
    ·
     have fk:(dG != 12)=true:=aL
     exact Pt
   ·
    by_cases hk:dG=12
    ·
     exact W9
    ·
     have fk:(dG != 12)=true:=aL
     exact Pt
  obtain rfl:m=2:=by omega
  have mz:=hm.out.1 aB
  have Mo:=hm.out.2 aB
  have RR:=hide (show eV s 14 [a,b]=true by rw[HP.out,mz.out,Mo.out];first | done | rfl)
  exact ov
end Go.Proofs.YtjngkknbpfgdcaaGreatDoor
