import Derived.Test.YtjngkknbpfgdcaaGreatDoorVvS3z
set_option linter.unusedVariables false
set_option linter.unusedSimpArgs false
set_option maxRecDepth 100000
set_option maxHeartbeats 8000000
namespace Go.Proofs.YtjngkknbpfgdcaaGreatDoor
open Go.RowKit Go.Proofs.Tryz
--%quiet
theorem pN (s:O) (its:List R) (h:its.length≠1):jL s 10 its:=by
 intro S S' q w Ai ci hs hR
 have HS:=I hs
 have hq:=hs.1
 have ga:¬q=w.heap.size:=aF
 have HR:=I hR
 have hlen:=hR.1
 have gX:=hR.2.1
 simp only[ar,aD,aE,Nat.reduceAdd]at hlen
 unfold maxLen at gX
 clear hR hs
 have RR:=I (gz (s:=s) (op:=10) (its:=its) (by rw[show (cM 10).length=1 by decide];omega))
 have f1:((its.length:Int) != 1)=true:=aM
 exact pM
theorem JM (s:O) (a:R):jL s 10 [a]:=by
 intro S S' q w Ai ci hs hR
 have HS:=I hs
 have hq:=hs.1
 have ga:¬q=w.heap.size:=aF
 have HR:=I hR
 have hlen:=hR.1
 have gX:=hR.2.1
 simp only[ar,aD,aE,Nat.reduceAdd]at hlen
 unfold maxLen at gX
 clear hR hs
 have iC:U w w:=U.refl w
 (obtain⟨b1,o1,cz,cD,cE,cB,cF,cO,gb,dS,gy,gF,kP,eN,fi,eO,fT,gD,gE,fD,fE,fG,fK,fN,jy⟩:=R.e0 HR.out aJ iC;subst gb)
 have iH:¬b1=w.heap.size:=aF
 have oC:¬b1=w.heap.size+1:=aF
 have HP:Hid (ez s 10 [a]=(dG s 3 ⟨cz,cD,cE,cB,cF,cO⟩)):=by
  show _=_
  unfold ez;rw[show cM 10=[3] by decide]
  exact sk
 clear iC
 go_enter func97,ntmps97
 go_wp2_with (fail)
 repeat (any_goals (go_quiet (fail);(try go_wp2_with (fail))))
 go_loopw [80] (fun v wr=>∃m:Nat,v=.int .i64 m/\m<=1/\Hid ((1<=m->Hid (dG s 3 ⟨cz,cD,cE,cB,cF,cO⟩=true)))/\U ((w.alloc (.cells #[] 3)).alloc (.cells #[.int .i64 3] 3)) wr) (fun v _=>1 - (intOf v).toNat)
 case atStart=>exact⟨0,rfl,by omega,fun h=>absurd h aF,bl⟩
 case round =>
  obtain⟨m,rfl,m1,hm,jl⟩:=hrel
  have dX:U w wr:=U.trans bl jl
  have hz:=jl.size
  simp only[World.size_alloc]at hz
  have vq:=dX.box b1 aF
  have DL:=jl.box (w.heap.size+1) aJ
  by_cases e0:m=0
  ·
   subst e0
   cases hi:eE s ⟨cz,cD,cE,cB,cF,cO⟩
   ·
    by_cases hk:cz=3
    ·
     have fk:(cz != 3)=false:=aQ
     exact Ro
    ·
     have fk:(cz != 3)=true:=aQ
     exact Ro
   ·
    by_cases hk:cz=3
    ·
     have fk:(cz != 3)=false:=aQ
     have HC:=I (show dG s 3 ⟨cz,cD,cE,cB,cF,cO⟩=true by unfold dG;rw[hi];simp[hk])
     exact zd
    ·
     have fk:(cz != 3)=true:=aQ
     exact Ro
  obtain rfl:m=1:=by omega
  have mj:=hm.out aF
  have RR:=I (show ez s 10 [a]=true by rw[HP.out,mj.out];first | done | rfl)
  exact lj
theorem pO (s:O) (its:List R) (h:its.length≠0):jL s 11 its:=by
 intro S S' q w Ai ci hs hR
 have HS:=I hs
 have hq:=hs.1
 have ga:¬q=w.heap.size:=aF
 have HR:=I hR
 have hlen:=hR.1
 have gX:=hR.2.1
 simp only[ar,aD,aE,Nat.reduceAdd]at hlen
 unfold maxLen at gX
 clear hR hs
 have RR:=I (gz (s:=s) (op:=11) (its:=its) (by rw[show (cM 11).length=0 by decide];omega))
 have f1:((its.length:Int) != 0)=true:=aM
 exact pM
theorem JN (s:O):jL s 11 []:=by
 intro S S' q w Ai ci hs hR
 have HS:=I hs
 have hq:=hs.1
 have ga:¬q=w.heap.size:=aF
 have HR:=I hR
 have hlen:=hR.1
 have gX:=hR.2.1
 simp only[ar,aD,aE,Nat.reduceAdd]at hlen
 unfold maxLen at gX
 clear hR hs
 have iC:U w w:=U.refl w
 have HP:Hid (ez s 11 []=(true)):=by
  show _=_
  unfold ez;rw[show cM 11=[] by decide]
  simp[sc]
 exact NG
theorem pP (s:O) (its:List R) (h:its.length≠0):jL s 12 its:=by
 intro S S' q w Ai ci hs hR
 have HS:=I hs
 have hq:=hs.1
 have ga:¬q=w.heap.size:=aF
 have HR:=I hR
 have hlen:=hR.1
 have gX:=hR.2.1
 simp only[ar,aD,aE,Nat.reduceAdd]at hlen
 unfold maxLen at gX
 clear hR hs
 have RR:=I (gz (s:=s) (op:=12) (its:=its) (by rw[show (cM 12).length=0 by decide];omega))
 have f1:((its.length:Int) != 0)=true:=aM
 exact pM
theorem JO (s:O):jL s 12 []:=by
 intro S S' q w Ai ci hs hR
 have HS:=I hs
 have hq:=hs.1
 have ga:¬q=w.heap.size:=aF
 have HR:=I hR
 have hlen:=hR.1
 have gX:=hR.2.1
 simp only[ar,aD,aE,Nat.reduceAdd]at hlen
 unfold maxLen at gX
 clear hR hs
 have iC:U w w:=U.refl w
 have HP:Hid (ez s 12 []=(true)):=by
  show _=_
  unfold ez;rw[show cM 12=[] by decide]
  simp[sc]
 exact NG
theorem pQ (s:O) (its:List R) (h:its.length≠1):jL s 13 its:=by
 intro S S' q w Ai ci hs hR
 have HS:=I hs
 have hq:=hs.1
 have ga:¬q=w.heap.size:=aF
 have HR:=I hR
 have hlen:=hR.1
 have gX:=hR.2.1
 simp only[ar,aD,aE,Nat.reduceAdd]at hlen
 unfold maxLen at gX
 clear hR hs
 have RR:=I (gz (s:=s) (op:=13) (its:=its) (by rw[show (cM 13).length=1 by decide];omega))
 have f1:((its.length:Int) != 1)=true:=aM
 exact pM
theorem JP (s:O) (a:R):jL s 13 [a]:=by
 intro S S' q w Ai ci hs hR
 have HS:=I hs
 have hq:=hs.1
 have ga:¬q=w.heap.size:=aF
 have HR:=I hR
 have hlen:=hR.1
 have gX:=hR.2.1
 simp only[ar,aD,aE,Nat.reduceAdd]at hlen
 unfold maxLen at gX
 clear hR hs
 have iC:U w w:=U.refl w
 (obtain⟨b1,o1,cz,cD,cE,cB,cF,cO,gb,dS,gy,gF,kP,eN,fi,eO,fT,gD,gE,fD,fE,fG,fK,fN,jy⟩:=R.e0 HR.out aJ iC;subst gb)
 have iH:¬b1=w.heap.size:=aF
 have oC:¬b1=w.heap.size+1:=aF
 have HP:Hid (ez s 13 [a]=(dG s 12 ⟨cz,cD,cE,cB,cF,cO⟩)):=by
  show _=_
  unfold ez;rw[show cM 13=[12] by decide]
  exact sk
 clear iC
 go_enter func97,ntmps97
 go_wp2_with (fail)
 repeat (any_goals (go_quiet (fail);(try go_wp2_with (fail))))
 go_loopw [80] (fun v wr=>∃m:Nat,v=.int .i64 m/\m<=1/\Hid ((1<=m->Hid (dG s 12 ⟨cz,cD,cE,cB,cF,cO⟩=true)))/\U ((w.alloc (.cells #[] 3)).alloc (.cells #[.int .i64 12] 3)) wr) (fun v _=>1 - (intOf v).toNat)
 case atStart=>exact⟨0,rfl,by omega,fun h=>absurd h aF,bl⟩
 case round =>
  obtain⟨m,rfl,m1,hm,jl⟩:=hrel
  have dX:U w wr:=U.trans bl jl
  have hz:=jl.size
  simp only[World.size_alloc]at hz
  have vq:=dX.box b1 aF
  have DL:=jl.box (w.heap.size+1) aJ
  by_cases e0:m=0
  ·
   subst e0
   cases hi:eE s ⟨cz,cD,cE,cB,cF,cO⟩
   ·
    by_cases hk:cz=12
    ·
     have fk:(cz != 12)=false:=aQ
     exact Rp
    ·
     have fk:(cz != 12)=true:=aQ
     exact Rp
   ·
    by_cases hk:cz=12
    ·
     have fk:(cz != 12)=false:=aQ
     have HC:=I (show dG s 12 ⟨cz,cD,cE,cB,cF,cO⟩=true by unfold dG;rw[hi];simp[hk])
     exact zd
    ·
     have fk:(cz != 12)=true:=aQ
     exact Rp
  obtain rfl:m=1:=by omega
  have mj:=hm.out aF
  have RR:=I (show ez s 13 [a]=true by rw[HP.out,mj.out];first | done | rfl)
  exact lj
theorem pR (s:O) (its:List R) (h:its.length≠2):jL s 14 its:=by
 intro S S' q w Ai ci hs hR
 have HS:=I hs
 have hq:=hs.1
 have ga:¬q=w.heap.size:=aF
 have HR:=I hR
 have hlen:=hR.1
 have gX:=hR.2.1
 simp only[ar,aD,aE,Nat.reduceAdd]at hlen
 unfold maxLen at gX
 clear hR hs
 have RR:=I (gz (s:=s) (op:=14) (its:=its) (by rw[show (cM 14).length=2 by decide];omega))
 have f1:((its.length:Int) != 2)=true:=aM
 exact pM
theorem JQ (s:O) (a:R) (b:R):jL s 14 [a,b]:=by
 intro S S' q w Ai ci hs hR
 have HS:=I hs
 have hq:=hs.1
 have ga:¬q=w.heap.size:=aF
 have HR:=I hR
 have hlen:=hR.1
 have gX:=hR.2.1
 simp only[ar,aD,aE,Nat.reduceAdd]at hlen
 unfold maxLen at gX
 clear hR hs
 have iC:U w w:=U.refl w
 (obtain⟨b1,o1,cz,cD,cE,cB,cF,cO,gb,dS,gy,gF,kP,eN,fi,eO,fT,gD,gE,fD,fE,fG,fK,fN,jy⟩:=R.e0 HR.out aJ iC;subst gb)
 (obtain⟨b2,o2,da,dw,dx,dy,dz,dA,mO,mu,nn,od,vz,kv,kz,kA,iw,kD,kE,jS,jT,jU,jV,jW,j1⟩:=R.e1 HR.out aJ iC;injection Option.some.inj mO with qb2 tm _;subst qb2 tm)
 have iH:¬b1=w.heap.size:=aF
 have oC:¬b1=w.heap.size+1:=aF
 have HP:Hid (ez s 14 [a,b]=(dG s 12 ⟨cz,cD,cE,cB,cF,cO⟩&&dG s 12 ⟨da,dw,dx,dy,dz,dA⟩)):=by
  show _=_
  unfold ez;rw[show cM 14=[12,12] by decide]
  exact KO
 clear iC
 go_enter func97,ntmps97
 go_wp2_with (fail)
 repeat (any_goals (go_quiet (fail);(try go_wp2_with (fail))))
 go_loopw [80] (fun v wr=>∃m:Nat,v=.int .i64 m/\m<=2/\Hid ((1<=m->Hid (dG s 12 ⟨cz,cD,cE,cB,cF,cO⟩=true))/\(2<=m->Hid (dG s 12 ⟨da,dw,dx,dy,dz,dA⟩=true)))/\U ((w.alloc (.cells #[] 3)).alloc (.cells #[.int .i64 12,.int .i64 12] 3)) wr) (fun v _=>2 - (intOf v).toNat)
 case atStart=>exact⟨0,rfl,by omega,⟨fun h=>absurd h aF,fun h=>absurd h aF⟩,bl⟩
 case round =>
  obtain⟨m,rfl,m1,hm,jl⟩:=hrel
  have dX:U w wr:=U.trans bl jl
  have hz:=jl.size
  simp only[World.size_alloc]at hz
  have vq:=dX.box b1 aF
  have DL:=jl.box (w.heap.size+1) aJ
  by_cases e0:m=0
  ·
   subst e0
   cases hi:eE s ⟨cz,cD,cE,cB,cF,cO⟩
   ·
    by_cases hk:cz=12
    ·
     have fk:(cz != 12)=false:=aQ
     exact Rq
    ·
     have fk:(cz != 12)=true:=aQ
     exact Rq
   ·
    by_cases hk:cz=12
    ·
     exact Yz
    ·
     have fk:(cz != 12)=true:=aQ
     exact Rq
  by_cases e1:m=1
  ·
   subst e1
   cases hi:eE s ⟨da,dw,dx,dy,dz,dA⟩
   ·
    by_cases hk:da=12
    ·
     have fk:(da != 12)=false:=aQ
     exact Rr
    ·
     have fk:(da != 12)=true:=aQ
     exact Rr
   ·
    by_cases hk:da=12
    ·
     exact YA
    ·
     have fk:(da != 12)=true:=aQ
     exact Rr
  obtain rfl:m=2:=by omega
  have mj:=hm.out.1 aF
  have mc:=hm.out.2 aF
  have RR:=I (show ez s 14 [a,b]=true by rw[HP.out,mj.out,mc.out];first | done | rfl)
  exact lj
end Go.Proofs.YtjngkknbpfgdcaaGreatDoor
