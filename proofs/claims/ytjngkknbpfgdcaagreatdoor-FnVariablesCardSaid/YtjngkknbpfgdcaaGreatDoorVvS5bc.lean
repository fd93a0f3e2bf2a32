import Derived.Test.YtjngkknbpfgdcaaGreatDoorVvS3z
set_option linter.unusedVariables false
set_option linter.unusedSimpArgs false
set_option maxRecDepth 100000
set_option maxHeartbeats 8000000
namespace Go.Proofs.YtjngkknbpfgdcaaGreatDoor
open Go.RowKit Go.Proofs.Tryz
--%quiet
theorem pS (s:O) (its:List R) (h:its.length≠2):jL s 15 its:=by
 intro S S' q w Ai ci hs hR
 have HS:=I hs
 have hq:=hs.1
 have ga:¬q=w.heap.size:=aF
 have HR:=I hR
 have hlen:=hR.1
 have gX:=hR.2.1
 simp only[ar,aD,aE,Nat.reduceAdd]at hlen
 unfold maxLen at gX
 clear hR hs
 have RR:=I (gz (s:=s) (op:=15) (its:=its) (by rw[show (cM 15).length=2 by decide];omega))
 have f1:((its.length:Int) != 2)=true:=aM
 exact pM
theorem JR (s:O) (a:R) (b:R):jL s 15 [a,b]:=by
 intro S S' q w Ai ci hs hR
 have HS:=I hs
 have hq:=hs.1
 have ga:¬q=w.heap.size:=aF
 have HR:=I hR
 have hlen:=hR.1
 have gX:=hR.2.1
 simp only[ar,aD,aE,Nat.reduceAdd]at hlen
 unfold maxLen at gX
 clear hR hs
 have iC:U w w:=U.refl w
 (obtain⟨b1,o1,cz,cD,cE,cB,cF,cO,gb,dS,gy,gF,kP,eN,fi,eO,fT,gD,gE,fD,fE,fG,fK,fN,jy⟩:=R.e0 HR.out aJ iC;subst gb)
 (obtain⟨b2,o2,da,dw,dx,dy,dz,dA,mO,mu,nn,od,vz,kv,kz,kA,iw,kD,kE,jS,jT,jU,jV,jW,j1⟩:=R.e1 HR.out aJ iC;injection Option.some.inj mO with qb2 tm _;subst qb2 tm)
 have iH:¬b1=w.heap.size:=aF
 have oC:¬b1=w.heap.size+1:=aF
 have HP:Hid (ez s 15 [a,b]=(dG s 12 ⟨cz,cD,cE,cB,cF,cO⟩&&dG s 12 ⟨da,dw,dx,dy,dz,dA⟩)):=by
  show _=_
  unfold ez;rw[show cM 15=[12,12] by decide]
  exact KO
 clear iC
 go_enter func97,ntmps97
 go_wp2_with (fail)
 repeat (any_goals (go_quiet (fail);(try go_wp2_with (fail))))
 go_loopw [80] (fun v wr=>∃m:Nat,v=.int .i64 m/\m<=2/\Hid ((1<=m->Hid (dG s 12 ⟨cz,cD,cE,cB,cF,cO⟩=true))/\(2<=m->Hid (dG s 12 ⟨da,dw,dx,dy,dz,dA⟩=true)))/\U ((w.alloc (.cells #[] 3)).alloc (.cells #[.int .i64 12,.int .i64 12] 3)) wr) (fun v _=>2 - (intOf v).toNat)
 case atStart=>exact⟨0,rfl,by omega,⟨fun h=>absurd h aF,fun h=>absurd h aF⟩,bl⟩
 case round =>
  obtain⟨m,rfl,m1,hm,jl⟩:=hrel
  have dX:U w wr:=U.trans bl jl
  have hz:=jl.size
  simp only[World.size_alloc]at hz
  have vq:=dX.box b1 aF
  have DL:=jl.box (w.heap.size+1) aJ
  by_cases e0:m=0
  ·
   subst e0
   cases hi:eE s ⟨cz,cD,cE,cB,cF,cO⟩
   ·
    by_cases hk:cz=12
    ·
     have fk:(cz != 12)=false:=aQ
     exact Rs
    ·
     have fk:(cz != 12)=true:=aQ
     exact Rs
   ·
    by_cases hk:cz=12
    ·
     exact Yz
    ·
     have fk:(cz != 12)=true:=aQ
     exact Rs
  by_cases e1:m=1
  ·
   subst e1
   cases hi:eE s ⟨da,dw,dx,dy,dz,dA⟩
   ·
    by_cases hk:da=12
    ·
     have fk:(da != 12)=false:=aQ
     exact Rt
    ·
     have fk:(da != 12)=true:=aQ
     exact Rt
   ·
    by_cases hk:da=12
    ·
     exact YA
    ·
     have fk:(da != 12)=true:=aQ
     exact Rt
  obtain rfl:m=2:=by omega
  have mj:=hm.out.1 aF
  have mc:=hm.out.2 aF
  have RR:=I (show ez s 15 [a,b]=true by rw[HP.out,mj.out,mc.out];first | done | rfl)
  exact lj
theorem pT (s:O) (its:List R) (h:its.length≠2):jL s 16 its:=by
 intro S S' q w Ai ci hs hR
 have HS:=I hs
 have hq:=hs.1
 have ga:¬q=w.heap.size:=aF
 have HR:=I hR
 have hlen:=hR.1
 have gX:=hR.2.1
 simp only[ar,aD,aE,Nat.reduceAdd]at hlen
 unfold maxLen at gX
 clear hR hs
 have RR:=I (gz (s:=s) (op:=16) (its:=its) (by rw[show (cM 16).length=2 by decide];omega))
 have f1:((its.length:Int) != 2)=true:=aM
 exact pM
theorem JS (s:O) (a:R) (b:R):jL s 16 [a,b]:=by
 intro S S' q w Ai ci hs hR
 have HS:=I hs
 have hq:=hs.1
 have ga:¬q=w.heap.size:=aF
 have HR:=I hR
 have hlen:=hR.1
 have gX:=hR.2.1
 simp only[ar,aD,aE,Nat.reduceAdd]at hlen
 unfold maxLen at gX
 clear hR hs
 have iC:U w w:=U.refl w
 (obtain⟨b1,o1,cz,cD,cE,cB,cF,cO,gb,dS,gy,gF,kP,eN,fi,eO,fT,gD,gE,fD,fE,fG,fK,fN,jy⟩:=R.e0 HR.out aJ iC;subst gb)
 (obtain⟨b2,o2,da,dw,dx,dy,dz,dA,mO,mu,nn,od,vz,kv,kz,kA,iw,kD,kE,jS,jT,jU,jV,jW,j1⟩:=R.e1 HR.out aJ iC;injection Option.some.inj mO with qb2 tm _;subst qb2 tm)
 have iH:¬b1=w.heap.size:=aF
 have oC:¬b1=w.heap.size+1:=aF
 have HP:Hid (ez s 16 [a,b]=(dG s 12 ⟨cz,cD,cE,cB,cF,cO⟩&&dG s 13 ⟨da,dw,dx,dy,dz,dA⟩)):=by
  show _=_
  unfold ez;rw[show cM 16=[12,13] by decide]
  exact KO
 clear iC
 go_enter func97,ntmps97
 go_wp2_with (fail)
 repeat (any_goals (go_quiet (fail);(try go_wp2_with (fail))))
 go_loopw [80] (fun v wr=>∃m:Nat,v=.int .i64 m/\m<=1/\Hid ((1<=m->Hid (dG s 12 ⟨cz,cD,cE,cB,cF,cO⟩=true)))/\U ((w.alloc (.cells #[] 3)).alloc (.cells #[.int .i64 12] 3)) wr) (fun v _=>1 - (intOf v).toNat)
 case atStart=>exact⟨0,rfl,by omega,fun h=>absurd h aF,bl⟩
 case round =>
  obtain⟨m,rfl,m1,hm,jl⟩:=hrel
  have dX:U w wr:=U.trans bl jl
  have hz:=jl.size
  simp only[World.size_alloc]at hz
  have vq:=dX.box b1 aF
  have DL:=jl.box (w.heap.size+1) aJ
  by_cases e0:m=0
  ·
   subst e0
   cases hi:eE s ⟨cz,cD,cE,cB,cF,cO⟩
   ·
    by_cases hk:cz=12
    ·
     have fk:(cz != 12)=false:=aQ
     exact Ru
    ·
     have fk:(cz != 12)=true:=aQ
     exact Ru
   ·
    by_cases hk:cz=12
    ·
     have fk:(cz != 12)=false:=aQ
     have HC:=I (show dG s 12 ⟨cz,cD,cE,cB,cF,cO⟩=true by unfold dG;rw[hi];simp[hk])
     exact zd
    ·
     have fk:(cz != 12)=true:=aQ
     exact Ru
  obtain rfl:m=1:=by omega
  have mj:=hm.out aF
  cases hi:eE s ⟨da,dw,dx,dy,dz,dA⟩
  ·
   by_cases hk:da=13
   ·
    have fk:(da==13)=true:=aQ
    have HC:=I (show dG s 13 ⟨da,dw,dx,dy,dz,dA⟩=false by unfold dG;rw[hi];simp[hk])
    have HI:=I hi
    clear hi hk
    have RR:=I (show ez s 16 [a,b]=false by rw[HP.out,HC.out,mj.out];first | done | rfl)
    exact AQ
   ·
    have fk:(da==13)=false:=aQ
    by_cases nF:da=14
    ·
     have JT:(da==14)=true:=bQ
     have HC:=I (show dG s 13 ⟨da,dw,dx,dy,dz,dA⟩=false by unfold dG;rw[hi];simp[hk,nF])
     have HI:=I hi
     clear hi hk nF
     have RR:=I (show ez s 16 [a,b]=false by rw[HP.out,HC.out,mj.out];first | done | rfl)
     exact AQ
    ·
     have JT:(da==14)=false:=bQ
     have HC:=I (show dG s 13 ⟨da,dw,dx,dy,dz,dA⟩=false by unfold dG;rw[hi];simp[hk,nF])
     have HI:=I hi
     clear hi hk nF
     have RR:=I (show ez s 16 [a,b]=false by rw[HP.out,HC.out,mj.out];first | done | rfl)
     exact AQ
  ·
   by_cases hk:da=13
   ·
    have fk:(da==13)=true:=aQ
    have HC:=I (show dG s 13 ⟨da,dw,dx,dy,dz,dA⟩=true by unfold dG;rw[hi];simp[hk])
    have HI:=I hi
    clear hi hk
    have RR:=I (show ez s 16 [a,b]=true by rw[HP.out,HC.out,mj.out];first | done | rfl)
    exact AQ
   ·
    have fk:(da==13)=false:=aQ
    by_cases nF:da=14
    ·
     have JT:(da==14)=true:=bQ
     have HC:=I (show dG s 13 ⟨da,dw,dx,dy,dz,dA⟩=true by unfold dG;rw[hi];simp[hk,nF])
     have HI:=I hi
     clear hi hk nF
     have RR:=I (show ez s 16 [a,b]=true by rw[HP.out,HC.out,mj.out];first | done | rfl)
     exact AQ
    ·
     have JT:(da==14)=false:=bQ
     have HC:=I (show dG s 13 ⟨da,dw,dx,dy,dz,dA⟩=false by unfold dG;rw[hi];simp[hk,nF])
     have HI:=I hi
     clear hi hk nF
     have RR:=I (show ez s 16 [a,b]=false by rw[HP.out,HC.out,mj.out];first | done | rfl)
     exact AQ
theorem pU (s:O) (its:List R) (h:its.length≠2):jL s 17 its:=by
 intro S S' q w Ai ci hs hR
 have HS:=I hs
 have hq:=hs.1
 have ga:¬q=w.heap.size:=aF
 have HR:=I hR
 have hlen:=hR.1
 have gX:=hR.2.1
 simp only[ar,aD,aE,Nat.reduceAdd]at hlen
 unfold maxLen at gX
 clear hR hs
 have RR:=I (gz (s:=s) (op:=17) (its:=its) (by rw[show (cM 17).length=2 by decide];omega))
 have f1:((its.length:Int) != 2)=true:=aM
 exact pM
theorem JU (s:O) (a:R) (b:R):jL s 17 [a,b]:=by
 intro S S' q w Ai ci hs hR
 have HS:=I hs
 have hq:=hs.1
 have ga:¬q=w.heap.size:=aF
 have HR:=I hR
 have hlen:=hR.1
 have gX:=hR.2.1
 simp only[ar,aD,aE,Nat.reduceAdd]at hlen
 unfold maxLen at gX
 clear hR hs
 have iC:U w w:=U.refl w
 (obtain⟨b1,o1,cz,cD,cE,cB,cF,cO,gb,dS,gy,gF,kP,eN,fi,eO,fT,gD,gE,fD,fE,fG,fK,fN,jy⟩:=R.e0 HR.out aJ iC;subst gb)
 (obtain⟨b2,o2,da,dw,dx,dy,dz,dA,mO,mu,nn,od,vz,kv,kz,kA,iw,kD,kE,jS,jT,jU,jV,jW,j1⟩:=R.e1 HR.out aJ iC;injection Option.some.inj mO with qb2 tm _;subst qb2 tm)
 have iH:¬b1=w.heap.size:=aF
 have oC:¬b1=w.heap.size+1:=aF
 have HP:Hid (ez s 17 [a,b]=(dG s 12 ⟨cz,cD,cE,cB,cF,cO⟩&&dG s 13 ⟨da,dw,dx,dy,dz,dA⟩)):=by
  show _=_
  unfold ez;rw[show cM 17=[12,13] by decide]
  exact KO
 clear iC
 go_enter func97,ntmps97
 go_wp2_with (fail)
 repeat (any_goals (go_quiet (fail);(try go_wp2_with (fail))))
 go_loopw [80] (fun v wr=>∃m:Nat,v=.int .i64 m/\m<=1/\Hid ((1<=m->Hid (dG s 12 ⟨cz,cD,cE,cB,cF,cO⟩=true)))/\U ((w.alloc (.cells #[] 3)).alloc (.cells #[.int .i64 12] 3)) wr) (fun v _=>1 - (intOf v).toNat)
 case atStart=>exact⟨0,rfl,by omega,fun h=>absurd h aF,bl⟩
 case round =>
  obtain⟨m,rfl,m1,hm,jl⟩:=hrel
  have dX:U w wr:=U.trans bl jl
  have hz:=jl.size
  simp only[World.size_alloc]at hz
  have vq:=dX.box b1 aF
  have DL:=jl.box (w.heap.size+1) aJ
  by_cases e0:m=0
  ·
   subst e0
   cases hi:eE s ⟨cz,cD,cE,cB,cF,cO⟩
   ·
    by_cases hk:cz=12
    ·
     have fk:(cz != 12)=false:=aQ
     exact Rv
    ·
     have fk:(cz != 12)=true:=aQ
     exact Rv
   ·
    by_cases hk:cz=12
    ·
     have fk:(cz != 12)=false:=aQ
     have HC:=I (show dG s 12 ⟨cz,cD,cE,cB,cF,cO⟩=true by unfold dG;rw[hi];simp[hk])
     exact zd
    ·
     have fk:(cz != 12)=true:=aQ
     exact Rv
  obtain rfl:m=1:=by omega
  have mj:=hm.out aF
  cases hi:eE s ⟨da,dw,dx,dy,dz,dA⟩
  ·
   by_cases hk:da=13
   ·
    have fk:(da==13)=true:=aQ
    have HC:=I (show dG s 13 ⟨da,dw,dx,dy,dz,dA⟩=false by unfold dG;rw[hi];simp[hk])
    have HI:=I hi
    clear hi hk
    have RR:=I (show ez s 17 [a,b]=false by rw[HP.out,HC.out,mj.out];first | done | rfl)
    exact AQ
   ·
    have fk:(da==13)=false:=aQ
    by_cases nF:da=14
    ·
     have JT:(da==14)=true:=bQ
     have HC:=I (show dG s 13 ⟨da,dw,dx,dy,dz,dA⟩=false by unfold dG;rw[hi];simp[hk,nF])
     have HI:=I hi
     clear hi hk nF
     have RR:=I (show ez s 17 [a,b]=false by rw[HP.out,HC.out,mj.out];first | done | rfl)
     exact AQ
    ·
     have JT:(da==14)=false:=bQ
     have HC:=I (show dG s 13 ⟨da,dw,dx,dy,dz,dA⟩=false by unfold dG;rw[hi];simp[hk,nF])
     have HI:=I hi
     clear hi hk nF
     have RR:=I (show ez s 17 [a,b]=false by rw[HP.out,HC.out,mj.out];first | done | rfl)
     exact AQ
  ·
   by_cases hk:da=13
   ·
    have fk:(da==13)=true:=aQ
    have HC:=I (show dG s 13 ⟨da,dw,dx,dy,dz,dA⟩=true by unfold dG;rw[hi];simp[hk])
    have HI:=I hi
    clear hi hk
    have RR:=I (show ez s 17 [a,b]=true by rw[HP.out,HC.out,mj.out];first | done | rfl)
    exact AQ
   ·
    have fk:(da==13)=false:=aQ
    by_cases nF:da=14
    ·
     have JT:(da==14)=true:=bQ
     have HC:=I (show dG s 13 ⟨da,dw,dx,dy,dz,dA⟩=true by unfold dG;rw[hi];simp[hk,nF])
     have HI:=I hi
     clear hi hk nF
     have RR:=I (show ez s 17 [a,b]=true by rw[HP.out,HC.out,mj.out];first | done | rfl)
     exact AQ
    ·
     have JT:(da==14)=false:=bQ
     have HC:=I (show dG s 13 ⟨da,dw,dx,dy,dz,dA⟩=false by unfold dG;rw[hi];simp[hk,nF])
     have HI:=I hi
     clear hi hk nF
     have RR:=I (show ez s 17 [a,b]=false by rw[HP.out,HC.out,mj.out];first | done | rfl)
     exact AQ
theorem pV (s:O) (its:List R) (h:its.length≠1):jL s 18 its:=by
 intro S S' q w Ai ci hs hR
 have HS:=I hs
 have hq:=hs.1
 have ga:¬q=w.heap.size:=aF
 have HR:=I hR
 have hlen:=hR.1
 have gX:=hR.2.1
 simp only[ar,aD,aE,Nat.reduceAdd]at hlen
 unfold maxLen at gX
 clear hR hs
 have RR:=I (gz (s:=s) (op:=18) (its:=its) (by rw[show (cM 18).length=1 by decide];omega))
 have f1:((its.length:Int) != 1)=true:=aM
 exact pM
theorem JV (s:O) (a:R):jL s 18 [a]:=by
 intro S S' q w Ai ci hs hR
 have HS:=I hs
 have hq:=hs.1
 have ga:¬q=w.heap.size:=aF
 have HR:=I hR
 have hlen:=hR.1
 have gX:=hR.2.1
 simp only[ar,aD,aE,Nat.reduceAdd]at hlen
 unfold maxLen at gX
 clear hR hs
 have iC:U w w:=U.refl w
 (obtain⟨b1,o1,cz,cD,cE,cB,cF,cO,gb,dS,gy,gF,kP,eN,fi,eO,fT,gD,gE,fD,fE,fG,fK,fN,jy⟩:=R.e0 HR.out aJ iC;subst gb)
 have iH:¬b1=w.heap.size:=aF
 have oC:¬b1=w.heap.size+1:=aF
 have HP:Hid (ez s 18 [a]=(dG s 13 ⟨cz,cD,cE,cB,cF,cO⟩)):=by
  show _=_
  unfold ez;rw[show cM 18=[13] by decide]
  exact sk
 clear iC
 go_enter func97,ntmps97
 go_wp2_with (fail)
 repeat (any_goals (go_quiet (fail);(try go_wp2_with (fail))))
 go_loopw [80] (fun v wr=>∃m:Nat,v=.int .i64 m/\m<=0/\Hid (True)/\U (w.alloc (.cells #[] 3)) wr) (fun v _=>0 - (intOf v).toNat)
 case atStart=>exact⟨0,rfl,by omega,trivial,bl⟩
 case round =>
  obtain⟨m,rfl,m1,hm,jl⟩:=hrel
  have dX:U w wr:=U.trans bl jl
  have hz:=jl.size
  simp only[World.size_alloc]at hz
  have vq:=dX.box b1 aF
  obtain rfl:m=0:=by omega
  cases hi:eE s ⟨cz,cD,cE,cB,cF,cO⟩
  ·
   by_cases hk:cz=13
   ·
    have fk:(cz==13)=true:=aQ
    have HC:=I (show dG s 13 ⟨cz,cD,cE,cB,cF,cO⟩=false by unfold dG;rw[hi];simp[hk])
    have HI:=I hi
    clear hi hk
    have RR:=I (show ez s 18 [a]=false by rw[HP.out,HC.out];first | done | rfl)
    exact AR
   ·
    have fk:(cz==13)=false:=aQ
    by_cases nF:cz=14
    ·
     have JT:(cz==14)=true:=bQ
     have HC:=I (show dG s 13 ⟨cz,cD,cE,cB,cF,cO⟩=false by unfold dG;rw[hi];simp[hk,nF])
     have HI:=I hi
     clear hi hk nF
     have RR:=I (show ez s 18 [a]=false by rw[HP.out,HC.out];first | done | rfl)
     exact AR
    ·
     have JT:(cz==14)=false:=bQ
     have HC:=I (show dG s 13 ⟨cz,cD,cE,cB,cF,cO⟩=false by unfold dG;rw[hi];simp[hk,nF])
     have HI:=I hi
     clear hi hk nF
     have RR:=I (show ez s 18 [a]=false by rw[HP.out,HC.out];first | done | rfl)
     exact AR
  ·
   by_cases hk:cz=13
   ·
    have fk:(cz==13)=true:=aQ
    have HC:=I (show dG s 13 ⟨cz,cD,cE,cB,cF,cO⟩=true by unfold dG;rw[hi];simp[hk])
    have HI:=I hi
    clear hi hk
    have RR:=I (show ez s 18 [a]=true by rw[HP.out,HC.out];first | done | rfl)
    exact AR
   ·
    have fk:(cz==13)=false:=aQ
    by_cases nF:cz=14
    ·
     have JT:(cz==14)=true:=bQ
     have HC:=I (show dG s 13 ⟨cz,cD,cE,cB,cF,cO⟩=true by unfold dG;rw[hi];simp[hk,nF])
     have HI:=I hi
     clear hi hk nF
     have RR:=I (show ez s 18 [a]=true by rw[HP.out,HC.out];first | done | rfl)
     exact AR
    ·
     have JT:(cz==14)=false:=bQ
     have HC:=I (show dG s 13 ⟨cz,cD,cE,cB,cF,cO⟩=false by unfold dG;rw[hi];simp[hk,nF])
     have HI:=I hi
     clear hi hk nF
     have RR:=I (show ez s 18 [a]=false by rw[HP.out,HC.out];first | done | rfl)
     exact AR
theorem pW (s:O) (its:List R) (h:its.length≠0):jL s 19 its:=by
 intro S S' q w Ai ci hs hR
 have HS:=I hs
 have hq:=hs.1
 have ga:¬q=w.heap.size:=aF
 have HR:=I hR
 have hlen:=hR.1
 have gX:=hR.2.1
 simp only[ar,aD,aE,Nat.reduceAdd]at hlen
 unfold maxLen at gX
 clear hR hs
 have RR:=I (gz (s:=s) (op:=19) (its:=its) (by rw[show (cM 19).length=0 by decide];omega))
 have f1:((its.length:Int) != 0)=true:=aM
 exact pM
theorem JX (s:O):jL s 19 []:=by
 intro S S' q w Ai ci hs hR
 have HS:=I hs
 have hq:=hs.1
 have ga:¬q=w.heap.size:=aF
 have HR:=I hR
 have hlen:=hR.1
 have gX:=hR.2.1
 simp only[ar,aD,aE,Nat.reduceAdd]at hlen
 unfold maxLen at gX
 clear hR hs
 have iC:U w w:=U.refl w
 have HP:Hid (ez s 19 []=(true)):=by
  show _=_
  unfold ez;rw[show cM 19=[] by decide]
  simp[sc]
 exact NG
theorem pX (s:O) (its:List R) (h:its.length≠1):jL s 20 its:=by
 intro S S' q w Ai ci hs hR
 have HS:=I hs
 have hq:=hs.1
 have ga:¬q=w.heap.size:=aF
 have HR:=I hR
 have hlen:=hR.1
 have gX:=hR.2.1
 simp only[ar,aD,aE,Nat.reduceAdd]at hlen
 unfold maxLen at gX
 clear hR hs
 have RR:=I (gz (s:=s) (op:=20) (its:=its) (by rw[show (cM 20).length=1 by decide];omega))
 have f1:((its.length:Int) != 1)=true:=aM
 exact pM
theorem JY (s:O) (a:R):jL s 20 [a]:=by
 intro S S' q w Ai ci hs hR
 have HS:=I hs
 have hq:=hs.1
 have ga:¬q=w.heap.size:=aF
 have HR:=I hR
 have hlen:=hR.1
 have gX:=hR.2.1
 simp only[ar,aD,aE,Nat.reduceAdd]at hlen
 unfold maxLen at gX
 clear hR hs
 have iC:U w w:=U.refl w
 (obtain⟨b1,o1,cz,cD,cE,cB,cF,cO,gb,dS,gy,gF,kP,eN,fi,eO,fT,gD,gE,fD,fE,fG,fK,fN,jy⟩:=R.e0 HR.out aJ iC;subst gb)
 have iH:¬b1=w.heap.size:=aF
 have oC:¬b1=w.heap.size+1:=aF
 have HP:Hid (ez s 20 [a]=(dG s 13 ⟨cz,cD,cE,cB,cF,cO⟩)):=by
  show _=_
  unfold ez;rw[show cM 20=[13] by decide]
  exact sk
 clear iC
 go_enter func97,ntmps97
 go_wp2_with (fail)
 repeat (any_goals (go_quiet (fail);(try go_wp2_with (fail))))
 go_loopw [80] (fun v wr=>∃m:Nat,v=.int .i64 m/\m<=0/\Hid (True)/\U (w.alloc (.cells #[] 3)) wr) (fun v _=>0 - (intOf v).toNat)
 case atStart=>exact⟨0,rfl,by omega,trivial,bl⟩
 case round =>
  obtain⟨m,rfl,m1,hm,jl⟩:=hrel
  have dX:U w wr:=U.trans bl jl
  have hz:=jl.size
  simp only[World.size_alloc]at hz
  have vq:=dX.box b1 aF
  obtain rfl:m=0:=by omega
  cases hi:eE s ⟨cz,cD,cE,cB,cF,cO⟩
  ·
   by_cases hk:cz=13
   ·
    have fk:(cz==13)=true:=aQ
    have HC:=I (show dG s 13 ⟨cz,cD,cE,cB,cF,cO⟩=false by unfold dG;rw[hi];simp[hk])
    have HI:=I hi
    clear hi hk
    have RR:=I (show ez s 20 [a]=false by rw[HP.out,HC.out];first | done | rfl)
    exact AR
   ·
    have fk:(cz==13)=false:=aQ
    by_cases nF:cz=14
    ·
     have JT:(cz==14)=true:=bQ
     have HC:=I (show dG s 13 ⟨cz,cD,cE,cB,cF,cO⟩=false by unfold dG;rw[hi];simp[hk,nF])
     have HI:=I hi
     clear hi hk nF
     have RR:=I (show ez s 20 [a]=false by rw[HP.out,HC.out];first | done | rfl)
     exact AR
    ·
     have JT:(cz==14)=false:=bQ
     have HC:=I (show dG s 13 ⟨cz,cD,cE,cB,cF,cO⟩=false by unfold dG;rw[hi];simp[hk,nF])
     have HI:=I hi
     clear hi hk nF
     have RR:=I (show ez s 20 [a]=false by rw[HP.out,HC.out];first | done | rfl)
     exact AR
  ·
   by_cases hk:cz=13
   ·
    have fk:(cz==13)=true:=aQ
    have HC:=I (show dG s 13 ⟨cz,cD,cE,cB,cF,cO⟩=true by unfold dG;rw[hi];simp[hk])
    have HI:=I hi
    clear hi hk
    have RR:=I (show ez s 20 [a]=true by rw[HP.out,HC.out];first | done | rfl)
    exact AR
   ·
    have fk:(cz==13)=false:=aQ
    by_cases nF:cz=14
    ·
     have JT:(cz==14)=true:=bQ
     have HC:=I (show dG s 13 ⟨cz,cD,cE,cB,cF,cO⟩=true by unfold dG;rw[hi];simp[hk,nF])
     have HI:=I hi
     clear hi hk nF
     have RR:=I (show ez s 20 [a]=true by rw[HP.out,HC.out];first | done | rfl)
     exact AR
    ·
     have JT:(cz==14)=false:=bQ
     have HC:=I (show dG s 13 ⟨cz,cD,cE,cB,cF,cO⟩=false by unfold dG;rw[hi];simp[hk,nF])
     have HI:=I hi
     clear hi hk nF
     have RR:=I (show ez s 20 [a]=false by rw[HP.out,HC.out];first | done | rfl)
     exact AR
theorem pY (s:O) (its:List R) (h:its.length≠0):jL s 21 its:=by
 intro S S' q w Ai ci hs hR
 have HS:=I hs
 have hq:=hs.1
 have ga:¬q=w.heap.size:=aF
 have HR:=I hR
 have hlen:=hR.1
 have gX:=hR.2.1
 simp only[ar,aD,aE,Nat.reduceAdd]at hlen
 unfold maxLen at gX
 clear hR hs
 have RR:=I (gz (s:=s) (op:=21) (its:=its) (by rw[show (cM 21).length=0 by decide];omega))
 have f1:((its.length:Int) != 0)=true:=aM
 exact pM
theorem JZ (s:O):jL s 21 []:=by
 intro S S' q w Ai ci hs hR
 have HS:=I hs
 have hq:=hs.1
 have ga:¬q=w.heap.size:=aF
 have HR:=I hR
 have hlen:=hR.1
 have gX:=hR.2.1
 simp only[ar,aD,aE,Nat.reduceAdd]at hlen
 unfold maxLen at gX
 clear hR hs
 have iC:U w w:=U.refl w
 have HP:Hid (ez s 21 []=(true)):=by
  show _=_
  unfold ez;rw[show cM 21=[] by decide]
  simp[sc]
 exact NG
theorem pZ (s:O) (its:List R) (h:its.length≠0):jL s 22 its:=by
 intro S S' q w Ai ci hs hR
 have HS:=I hs
 have hq:=hs.1
 have ga:¬q=w.heap.size:=aF
 have HR:=I hR
 have hlen:=hR.1
 have gX:=hR.2.1
 simp only[ar,aD,aE,Nat.reduceAdd]at hlen
 unfold maxLen at gX
 clear hR hs
 have RR:=I (gz (s:=s) (op:=22) (its:=its) (by rw[show (cM 22).length=0 by decide];omega))
 have f1:((its.length:Int) != 0)=true:=aM
 exact pM
theorem J0 (s:O):jL s 22 []:=by
 intro S S' q w Ai ci hs hR
 have HS:=I hs
 have hq:=hs.1
 have ga:¬q=w.heap.size:=aF
 have HR:=I hR
 have hlen:=hR.1
 have gX:=hR.2.1
 simp only[ar,aD,aE,Nat.reduceAdd]at hlen
 unfold maxLen at gX
 clear hR hs
 have iC:U w w:=U.refl w
 have HP:Hid (ez s 22 []=(true)):=by
  show _=_
  unfold ez;rw[show cM 22=[] by decide]
  simp[sc]
 exact NG
theorem qa (s:O) (its:List R) (h:its.length≠0):jL s 23 its:=by
 intro S S' q w Ai ci hs hR
 have HS:=I hs
 have hq:=hs.1
 have ga:¬q=w.heap.size:=aF
 have HR:=I hR
 have hlen:=hR.1
 have gX:=hR.2.1
 simp only[ar,aD,aE,Nat.reduceAdd]at hlen
 unfold maxLen at gX
 clear hR hs
 have RR:=I (gz (s:=s) (op:=23) (its:=its) (by rw[show (cM 23).length=0 by decide];omega))
 have f1:((its.length:Int) != 0)=true:=aM
 exact pM
theorem J1 (s:O):jL s 23 []:=by
 intro S S' q w Ai ci hs hR
 have HS:=I hs
 have hq:=hs.1
 have ga:¬q=w.heap.size:=aF
 have HR:=I hR
 have hlen:=hR.1
 have gX:=hR.2.1
 simp only[ar,aD,aE,Nat.reduceAdd]at hlen
 unfold maxLen at gX
 clear hR hs
 have iC:U w w:=U.refl w
 have HP:Hid (ez s 23 []=(true)):=by
  show _=_
  unfold ez;rw[show cM 23=[] by decide]
  simp[sc]
 exact NG
end Go.Proofs.YtjngkknbpfgdcaaGreatDoor
