import Derived.Test.YtjngkknbpfgdcaaGreatDoorVvS3z
set_option linter.unusedVariables false
set_option linter.unusedSimpArgs false
set_option maxRecDepth 100000
set_option maxHeartbeats 8000000
namespace Go.Proofs.YtjngkknbpfgdcaaGreatDoor
open Go.RowKit Go.Proofs.Tryz
--%quiet
theorem qX (s:O) (its:List R) (h:its.length≠1):jL s 1 its:=by
 intro S S' q w Ai ci hs hR
 have HS:=I hs
 have hq:=hs.1
 have ga:¬q=w.heap.size:=aF
 have HR:=I hR
 have hlen:=hR.1
 have gX:=hR.2.1
 simp only[ar,aD,aE,Nat.reduceAdd]at hlen
 unfold maxLen at gX
 clear hR hs
 have RR:=I (gz (s:=s) (op:=1) (its:=its) (by rw[show (cM 1).length=1 by decide];omega))
 have f1:((its.length:Int) != 1)=true:=aM
 exact pM
theorem Nw (s:O) (a:R):jL s 1 [a]:=by
 intro S S' q w Ai ci hs hR
 have HS:=I hs
 have hq:=hs.1
 have ga:¬q=w.heap.size:=aF
 have HR:=I hR
 have hlen:=hR.1
 have gX:=hR.2.1
 simp only[ar,aD,aE,Nat.reduceAdd]at hlen
 unfold maxLen at gX
 clear hR hs
 have iC:U w w:=U.refl w
 (obtain⟨b1,o1,cz,cD,cE,cB,cF,cO,gb,dS,gy,gF,kP,eN,fi,eO,fT,gD,gE,fD,fE,fG,fK,fN,jy⟩:=R.e0 HR.out aJ iC;subst gb)
 have iH:¬b1=w.heap.size:=aF
 have oC:¬b1=w.heap.size+1:=aF
 have HP:Hid (ez s 1 [a]=(dG s 2 ⟨cz,cD,cE,cB,cF,cO⟩)):=by
  show _=_
  unfold ez;rw[show cM 1=[2] by decide]
  exact sk
 clear iC
 go_enter func97,ntmps97
 go_wp2_with (fail)
 repeat (any_goals (go_quiet (fail);(try go_wp2_with (fail))))
 go_loopw [80] (fun v wr=>∃m:Nat,v=.int .i64 m/\m<=1/\Hid ((1<=m->Hid (dG s 2 ⟨cz,cD,cE,cB,cF,cO⟩=true)))/\U ((w.alloc (.cells #[] 3)).alloc (.cells #[.int .i64 2] 3)) wr) (fun v _=>1 - (intOf v).toNat)
 case atStart=>exact⟨0,rfl,by omega,fun h=>absurd h aF,bl⟩
 case round =>
  obtain⟨m,rfl,m1,hm,jl⟩:=hrel
  have dX:U w wr:=U.trans bl jl
  have hz:=jl.size
  simp only[World.size_alloc]at hz
  have vq:=dX.box b1 aF
  have DL:=jl.box (w.heap.size+1) aJ
  by_cases e0:m=0
  ·
   subst e0
   cases hi:eE s ⟨cz,cD,cE,cB,cF,cO⟩
   ·
    by_cases hk:cz=2
    ·
     have fk:(cz != 2)=false:=aQ
     exact Rf
    ·
     have fk:(cz != 2)=true:=aQ
     exact Rf
   ·
    by_cases hk:cz=2
    ·
     have fk:(cz != 2)=false:=aQ
     have HC:=I (show dG s 2 ⟨cz,cD,cE,cB,cF,cO⟩=true by unfold dG;rw[hi];simp[hk])
     exact zd
    ·
     have fk:(cz != 2)=true:=aQ
     exact Rf
  obtain rfl:m=1:=by omega
  have mj:=hm.out aF
  have RR:=I (show ez s 1 [a]=true by rw[HP.out,mj.out];first | done | rfl)
  exact lj
theorem qY (s:O) (its:List R) (h:its.length≠1):jL s 2 its:=by
 intro S S' q w Ai ci hs hR
 have HS:=I hs
 have hq:=hs.1
 have ga:¬q=w.heap.size:=aF
 have HR:=I hR
 have hlen:=hR.1
 have gX:=hR.2.1
 simp only[ar,aD,aE,Nat.reduceAdd]at hlen
 unfold maxLen at gX
 clear hR hs
 have RR:=I (gz (s:=s) (op:=2) (its:=its) (by rw[show (cM 2).length=1 by decide];omega))
 have f1:((its.length:Int) != 1)=true:=aM
 exact pM
theorem Nx (s:O) (a:R):jL s 2 [a]:=by
 intro S S' q w Ai ci hs hR
 have HS:=I hs
 have hq:=hs.1
 have ga:¬q=w.heap.size:=aF
 have HR:=I hR
 have hlen:=hR.1
 have gX:=hR.2.1
 simp only[ar,aD,aE,Nat.reduceAdd]at hlen
 unfold maxLen at gX
 clear hR hs
 have iC:U w w:=U.refl w
 (obtain⟨b1,o1,cz,cD,cE,cB,cF,cO,gb,dS,gy,gF,kP,eN,fi,eO,fT,gD,gE,fD,fE,fG,fK,fN,jy⟩:=R.e0 HR.out aJ iC;subst gb)
 have iH:¬b1=w.heap.size:=aF
 have oC:¬b1=w.heap.size+1:=aF
 have HP:Hid (ez s 2 [a]=(dG s 1 ⟨cz,cD,cE,cB,cF,cO⟩)):=by
  show _=_
  unfold ez;rw[show cM 2=[1] by decide]
  exact sk
 clear iC
 go_enter func97,ntmps97
 go_wp2_with (fail)
 repeat (any_goals (go_quiet (fail);(try go_wp2_with (fail))))
 go_loopw [80] (fun v wr=>∃m:Nat,v=.int .i64 m/\m<=1/\Hid ((1<=m->Hid (dG s 1 ⟨cz,cD,cE,cB,cF,cO⟩=true)))/\U ((w.alloc (.cells #[] 3)).alloc (.cells #[.int .i64 1] 3)) wr) (fun v _=>1 - (intOf v).toNat)
 case atStart=>exact⟨0,rfl,by omega,fun h=>absurd h aF,bl⟩
 case round =>
  obtain⟨m,rfl,m1,hm,jl⟩:=hrel
  have dX:U w wr:=U.trans bl jl
  have hz:=jl.size
  simp only[World.size_alloc]at hz
  have vq:=dX.box b1 aF
  have DL:=jl.box (w.heap.size+1) aJ
  by_cases e0:m=0
  ·
   subst e0
   cases hi:eE s ⟨cz,cD,cE,cB,cF,cO⟩
   ·
    by_cases hk:cz=1
    ·
     have fk:(cz != 1)=false:=aQ
     exact Rg
    ·
     have fk:(cz != 1)=true:=aQ
     exact Rg
   ·
    by_cases hk:cz=1
    ·
     have fk:(cz != 1)=false:=aQ
     have HC:=I (show dG s 1 ⟨cz,cD,cE,cB,cF,cO⟩=true by unfold dG;rw[hi];simp[hk])
     exact zd
    ·
     have fk:(cz != 1)=true:=aQ
     exact Rg
  obtain rfl:m=1:=by omega
  have mj:=hm.out aF
  have RR:=I (show ez s 2 [a]=true by rw[HP.out,mj.out];first | done | rfl)
  exact lj
theorem qZ (s:O) (its:List R) (h:its.length≠1):jL s 3 its:=by
 intro S S' q w Ai ci hs hR
 have HS:=I hs
 have hq:=hs.1
 have ga:¬q=w.heap.size:=aF
 have HR:=I hR
 have hlen:=hR.1
 have gX:=hR.2.1
 simp only[ar,aD,aE,Nat.reduceAdd]at hlen
 unfold maxLen at gX
 clear hR hs
 have RR:=I (gz (s:=s) (op:=3) (its:=its) (by rw[show (cM 3).length=1 by decide];omega))
 have f1:((its.length:Int) != 1)=true:=aM
 exact pM
theorem Ny (s:O) (a:R):jL s 3 [a]:=by
 intro S S' q w Ai ci hs hR
 have HS:=I hs
 have hq:=hs.1
 have ga:¬q=w.heap.size:=aF
 have HR:=I hR
 have hlen:=hR.1
 have gX:=hR.2.1
 simp only[ar,aD,aE,Nat.reduceAdd]at hlen
 unfold maxLen at gX
 clear hR hs
 have iC:U w w:=U.refl w
 (obtain⟨b1,o1,cz,cD,cE,cB,cF,cO,gb,dS,gy,gF,kP,eN,fi,eO,fT,gD,gE,fD,fE,fG,fK,fN,jy⟩:=R.e0 HR.out aJ iC;subst gb)
 have iH:¬b1=w.heap.size:=aF
 have oC:¬b1=w.heap.size+1:=aF
 have HP:Hid (ez s 3 [a]=(dG s 1 ⟨cz,cD,cE,cB,cF,cO⟩)):=by
  show _=_
  unfold ez;rw[show cM 3=[1] by decide]
  exact sk
 clear iC
 go_enter func97,ntmps97
 go_wp2_with (fail)
 repeat (any_goals (go_quiet (fail);(try go_wp2_with (fail))))
 go_loopw [80] (fun v wr=>∃m:Nat,v=.int .i64 m/\m<=1/\Hid ((1<=m->Hid (dG s 1 ⟨cz,cD,cE,cB,cF,cO⟩=true)))/\U ((w.alloc (.cells #[] 3)).alloc (.cells #[.int .i64 1] 3)) wr) (fun v _=>1 - (intOf v).toNat)
 case atStart=>exact⟨0,rfl,by omega,fun h=>absurd h aF,bl⟩
 case round =>
  obtain⟨m,rfl,m1,hm,jl⟩:=hrel
  have dX:U w wr:=U.trans bl jl
  have hz:=jl.size
  simp only[World.size_alloc]at hz
  have vq:=dX.box b1 aF
  have DL:=jl.box (w.heap.size+1) aJ
  by_cases e0:m=0
  ·
   subst e0
   cases hi:eE s ⟨cz,cD,cE,cB,cF,cO⟩
   ·
    by_cases hk:cz=1
    ·
     have fk:(cz != 1)=false:=aQ
     exact Rh
    ·
     have fk:(cz != 1)=true:=aQ
     exact Rh
   ·
    by_cases hk:cz=1
    ·
     have fk:(cz != 1)=false:=aQ
     have HC:=I (show dG s 1 ⟨cz,cD,cE,cB,cF,cO⟩=true by unfold dG;rw[hi];simp[hk])
     exact zd
    ·
     have fk:(cz != 1)=true:=aQ
     exact Rh
  obtain rfl:m=1:=by omega
  have mj:=hm.out aF
  have RR:=I (show ez s 3 [a]=true by rw[HP.out,mj.out];first | done | rfl)
  exact lj
theorem q9 (s:O) (its:List R) (h:its.length≠1):jL s 4 its:=by
 intro S S' q w Ai ci hs hR
 have HS:=I hs
 have hq:=hs.1
 have ga:¬q=w.heap.size:=aF
 have HR:=I hR
 have hlen:=hR.1
 have gX:=hR.2.1
 simp only[ar,aD,aE,Nat.reduceAdd]at hlen
 unfold maxLen at gX
 clear hR hs
 have RR:=I (gz (s:=s) (op:=4) (its:=its) (by rw[show (cM 4).length=1 by decide];omega))
 have f1:((its.length:Int) != 1)=true:=aM
 exact pM
theorem Nz (s:O) (a:R):jL s 4 [a]:=by
 intro S S' q w Ai ci hs hR
 have HS:=I hs
 have hq:=hs.1
 have ga:¬q=w.heap.size:=aF
 have HR:=I hR
 have hlen:=hR.1
 have gX:=hR.2.1
 simp only[ar,aD,aE,Nat.reduceAdd]at hlen
 unfold maxLen at gX
 clear hR hs
 have iC:U w w:=U.refl w
 (obtain⟨b1,o1,cz,cD,cE,cB,cF,cO,gb,dS,gy,gF,kP,eN,fi,eO,fT,gD,gE,fD,fE,fG,fK,fN,jy⟩:=R.e0 HR.out aJ iC;subst gb)
 have iH:¬b1=w.heap.size:=aF
 have oC:¬b1=w.heap.size+1:=aF
 have HP:Hid (ez s 4 [a]=(dG s 1 ⟨cz,cD,cE,cB,cF,cO⟩)):=by
  show _=_
  unfold ez;rw[show cM 4=[1] by decide]
  exact sk
 clear iC
 go_enter func97,ntmps97
 go_wp2_with (fail)
 repeat (any_goals (go_quiet (fail);(try go_wp2_with (fail))))
 go_loopw [80] (fun v wr=>∃m:Nat,v=.int .i64 m/\m<=1/\Hid ((1<=m->Hid (dG s 1 ⟨cz,cD,cE,cB,cF,cO⟩=true)))/\U ((w.alloc (.cells #[] 3)).alloc (.cells #[.int .i64 1] 3)) wr) (fun v _=>1 - (intOf v).toNat)
 case atStart=>exact⟨0,rfl,by omega,fun h=>absurd h aF,bl⟩
 case round =>
  obtain⟨m,rfl,m1,hm,jl⟩:=hrel
  have dX:U w wr:=U.trans bl jl
  have hz:=jl.size
  simp only[World.size_alloc]at hz
  have vq:=dX.box b1 aF
  have DL:=jl.box (w.heap.size+1) aJ
  by_cases e0:m=0
  ·
   subst e0
   cases hi:eE s ⟨cz,cD,cE,cB,cF,cO⟩
   ·
    by_cases hk:cz=1
    ·
     have fk:(cz != 1)=false:=aQ
     exact Ri
    ·
     have fk:(cz != 1)=true:=aQ
     exact Ri
   ·
    by_cases hk:cz=1
    ·
     have fk:(cz != 1)=false:=aQ
     have HC:=I (show dG s 1 ⟨cz,cD,cE,cB,cF,cO⟩=true by unfold dG;rw[hi];simp[hk])
     exact zd
    ·
     have fk:(cz != 1)=true:=aQ
     exact Ri
  obtain rfl:m=1:=by omega
  have mj:=hm.out aF
  have RR:=I (show ez s 4 [a]=true by rw[HP.out,mj.out];first | done | rfl)
  exact lj
theorem ra (s:O) (its:List R) (h:its.length≠1):jL s 5 its:=by
 intro S S' q w Ai ci hs hR
 have HS:=I hs
 have hq:=hs.1
 have ga:¬q=w.heap.size:=aF
 have HR:=I hR
 have hlen:=hR.1
 have gX:=hR.2.1
 simp only[ar,aD,aE,Nat.reduceAdd]at hlen
 unfold maxLen at gX
 clear hR hs
 have RR:=I (gz (s:=s) (op:=5) (its:=its) (by rw[show (cM 5).length=1 by decide];omega))
 have f1:((its.length:Int) != 1)=true:=aM
 exact pM
theorem NA (s:O) (a:R):jL s 5 [a]:=by
 intro S S' q w Ai ci hs hR
 have HS:=I hs
 have hq:=hs.1
 have ga:¬q=w.heap.size:=aF
 have HR:=I hR
 have hlen:=hR.1
 have gX:=hR.2.1
 simp only[ar,aD,aE,Nat.reduceAdd]at hlen
 unfold maxLen at gX
 clear hR hs
 have iC:U w w:=U.refl w
 (obtain⟨b1,o1,cz,cD,cE,cB,cF,cO,gb,dS,gy,gF,kP,eN,fi,eO,fT,gD,gE,fD,fE,fG,fK,fN,jy⟩:=R.e0 HR.out aJ iC;subst gb)
 have iH:¬b1=w.heap.size:=aF
 have oC:¬b1=w.heap.size+1:=aF
 have HP:Hid (ez s 5 [a]=(dG s 1 ⟨cz,cD,cE,cB,cF,cO⟩)):=by
  show _=_
  unfold ez;rw[show cM 5=[1] by decide]
  exact sk
 clear iC
 go_enter func97,ntmps97
 go_wp2_with (fail)
 repeat (any_goals (go_quiet (fail);(try go_wp2_with (fail))))
 go_loopw [80] (fun v wr=>∃m:Nat,v=.int .i64 m/\m<=1/\Hid ((1<=m->Hid (dG s 1 ⟨cz,cD,cE,cB,cF,cO⟩=true)))/\U ((w.alloc (.cells #[] 3)).alloc (.cells #[.int .i64 1] 3)) wr) (fun v _=>1 - (intOf v).toNat)
 case atStart=>exact⟨0,rfl,by omega,fun h=>absurd h aF,bl⟩
 case round =>
  obtain⟨m,rfl,m1,hm,jl⟩:=hrel
  have dX:U w wr:=U.trans bl jl
  have hz:=jl.size
  simp only[World.size_alloc]at hz
  have vq:=dX.box b1 aF
  have DL:=jl.box (w.heap.size+1) aJ
  by_cases e0:m=0
  ·
   subst e0
   cases hi:eE s ⟨cz,cD,cE,cB,cF,cO⟩
   ·
    by_cases hk:cz=1
    ·
     have fk:(cz != 1)=false:=aQ
     exact Rj
    ·
     have fk:(cz != 1)=true:=aQ
     exact Rj
   ·
    by_cases hk:cz=1
    ·
     have fk:(cz != 1)=false:=aQ
     have HC:=I (show dG s 1 ⟨cz,cD,cE,cB,cF,cO⟩=true by unfold dG;rw[hi];simp[hk])
     exact zd
    ·
     have fk:(cz != 1)=true:=aQ
     exact Rj
  obtain rfl:m=1:=by omega
  have mj:=hm.out aF
  have RR:=I (show ez s 5 [a]=true by rw[HP.out,mj.out];first | done | rfl)
  exact lj
theorem rf (s:O) (its:List R) (h:its.length≠1):jL s 6 its:=by
 intro S S' q w Ai ci hs hR
 have HS:=I hs
 have hq:=hs.1
 have ga:¬q=w.heap.size:=aF
 have HR:=I hR
 have hlen:=hR.1
 have gX:=hR.2.1
 simp only[ar,aD,aE,Nat.reduceAdd]at hlen
 unfold maxLen at gX
 clear hR hs
 have RR:=I (gz (s:=s) (op:=6) (its:=its) (by rw[show (cM 6).length=1 by decide];omega))
 have f1:((its.length:Int) != 1)=true:=aM
 exact pM
theorem NB (s:O) (a:R):jL s 6 [a]:=by
 intro S S' q w Ai ci hs hR
 have HS:=I hs
 have hq:=hs.1
 have ga:¬q=w.heap.size:=aF
 have HR:=I hR
 have hlen:=hR.1
 have gX:=hR.2.1
 simp only[ar,aD,aE,Nat.reduceAdd]at hlen
 unfold maxLen at gX
 clear hR hs
 have iC:U w w:=U.refl w
 (obtain⟨b1,o1,cz,cD,cE,cB,cF,cO,gb,dS,gy,gF,kP,eN,fi,eO,fT,gD,gE,fD,fE,fG,fK,fN,jy⟩:=R.e0 HR.out aJ iC;subst gb)
 have iH:¬b1=w.heap.size:=aF
 have oC:¬b1=w.heap.size+1:=aF
 have HP:Hid (ez s 6 [a]=(dG s 1 ⟨cz,cD,cE,cB,cF,cO⟩)):=by
  show _=_
  unfold ez;rw[show cM 6=[1] by decide]
  exact sk
 clear iC
 go_enter func97,ntmps97
 go_wp2_with (fail)
 repeat (any_goals (go_quiet (fail);(try go_wp2_with (fail))))
 go_loopw [80] (fun v wr=>∃m:Nat,v=.int .i64 m/\m<=1/\Hid ((1<=m->Hid (dG s 1 ⟨cz,cD,cE,cB,cF,cO⟩=true)))/\U ((w.alloc (.cells #[] 3)).alloc (.cells #[.int .i64 1] 3)) wr) (fun v _=>1 - (intOf v).toNat)
 case atStart=>exact⟨0,rfl,by omega,fun h=>absurd h aF,bl⟩
 case round =>
  obtain⟨m,rfl,m1,hm,jl⟩:=hrel
  have dX:U w wr:=U.trans bl jl
  have hz:=jl.size
  simp only[World.size_alloc]at hz
  have vq:=dX.box b1 aF
  have DL:=jl.box (w.heap.size+1) aJ
  by_cases e0:m=0
  ·
   subst e0
   cases hi:eE s ⟨cz,cD,cE,cB,cF,cO⟩
   ·
    by_cases hk:cz=1
    ·
     have fk:(cz != 1)=false:=aQ
     exact Rk
    ·
     have fk:(cz != 1)=true:=aQ
     exact Rk
   ·
    by_cases hk:cz=1
    ·
     have fk:(cz != 1)=false:=aQ
     have HC:=I (show dG s 1 ⟨cz,cD,cE,cB,cF,cO⟩=true by unfold dG;rw[hi];simp[hk])
     exact zd
    ·
     have fk:(cz != 1)=true:=aQ
     exact Rk
  obtain rfl:m=1:=by omega
  have mj:=hm.out aF
  have RR:=I (show ez s 6 [a]=true by rw[HP.out,mj.out];first | done | rfl)
  exact lj
theorem rj (s:O) (its:List R) (h:its.length≠1):jL s 7 its:=by
 intro S S' q w Ai ci hs hR
 have HS:=I hs
 have hq:=hs.1
 have ga:¬q=w.heap.size:=aF
 have HR:=I hR
 have hlen:=hR.1
 have gX:=hR.2.1
 simp only[ar,aD,aE,Nat.reduceAdd]at hlen
 unfold maxLen at gX
 clear hR hs
 have RR:=I (gz (s:=s) (op:=7) (its:=its) (by rw[show (cM 7).length=1 by decide];omega))
 have f1:((its.length:Int) != 1)=true:=aM
 exact pM
theorem NC (s:O) (a:R):jL s 7 [a]:=by
 intro S S' q w Ai ci hs hR
 have HS:=I hs
 have hq:=hs.1
 have ga:¬q=w.heap.size:=aF
 have HR:=I hR
 have hlen:=hR.1
 have gX:=hR.2.1
 simp only[ar,aD,aE,Nat.reduceAdd]at hlen
 unfold maxLen at gX
 clear hR hs
 have iC:U w w:=U.refl w
 (obtain⟨b1,o1,cz,cD,cE,cB,cF,cO,gb,dS,gy,gF,kP,eN,fi,eO,fT,gD,gE,fD,fE,fG,fK,fN,jy⟩:=R.e0 HR.out aJ iC;subst gb)
 have iH:¬b1=w.heap.size:=aF
 have oC:¬b1=w.heap.size+1:=aF
 have HP:Hid (ez s 7 [a]=(dG s 3 ⟨cz,cD,cE,cB,cF,cO⟩)):=by
  show _=_
  unfold ez;rw[show cM 7=[3] by decide]
  exact sk
 clear iC
 go_enter func97,ntmps97
 go_wp2_with (fail)
 repeat (any_goals (go_quiet (fail);(try go_wp2_with (fail))))
 go_loopw [80] (fun v wr=>∃m:Nat,v=.int .i64 m/\m<=1/\Hid ((1<=m->Hid (dG s 3 ⟨cz,cD,cE,cB,cF,cO⟩=true)))/\U ((w.alloc (.cells #[] 3)).alloc (.cells #[.int .i64 3] 3)) wr) (fun v _=>1 - (intOf v).toNat)
 case atStart=>exact⟨0,rfl,by omega,fun h=>absurd h aF,bl⟩
 case round =>
  obtain⟨m,rfl,m1,hm,jl⟩:=hrel
  have dX:U w wr:=U.trans bl jl
  have hz:=jl.size
  simp only[World.size_alloc]at hz
  have vq:=dX.box b1 aF
  have DL:=jl.box (w.heap.size+1) aJ
  by_cases e0:m=0
  ·
   subst e0
   cases hi:eE s ⟨cz,cD,cE,cB,cF,cO⟩
   ·
    by_cases hk:cz=3
    ·
     have fk:(cz != 3)=false:=aQ
     exact Rl
    ·
     have fk:(cz != 3)=true:=aQ
     exact Rl
   ·
    by_cases hk:cz=3
    ·
     have fk:(cz != 3)=false:=aQ
     have HC:=I (show dG s 3 ⟨cz,cD,cE,cB,cF,cO⟩=true by unfold dG;rw[hi];simp[hk])
     exact zd
    ·
     have fk:(cz != 3)=true:=aQ
     exact Rl
  obtain rfl:m=1:=by omega
  have mj:=hm.out aF
  have RR:=I (show ez s 7 [a]=true by rw[HP.out,mj.out];first | done | rfl)
  exact lj
theorem rm (s:O) (its:List R) (h:its.length≠1):jL s 8 its:=by
 intro S S' q w Ai ci hs hR
 have HS:=I hs
 have hq:=hs.1
 have ga:¬q=w.heap.size:=aF
 have HR:=I hR
 have hlen:=hR.1
 have gX:=hR.2.1
 simp only[ar,aD,aE,Nat.reduceAdd]at hlen
 unfold maxLen at gX
 clear hR hs
 have RR:=I (gz (s:=s) (op:=8) (its:=its) (by rw[show (cM 8).length=1 by decide];omega))
 have f1:((its.length:Int) != 1)=true:=aM
 exact pM
theorem ND (s:O) (a:R):jL s 8 [a]:=by
 intro S S' q w Ai ci hs hR
 have HS:=I hs
 have hq:=hs.1
 have ga:¬q=w.heap.size:=aF
 have HR:=I hR
 have hlen:=hR.1
 have gX:=hR.2.1
 simp only[ar,aD,aE,Nat.reduceAdd]at hlen
 unfold maxLen at gX
 clear hR hs
 have iC:U w w:=U.refl w
 (obtain⟨b1,o1,cz,cD,cE,cB,cF,cO,gb,dS,gy,gF,kP,eN,fi,eO,fT,gD,gE,fD,fE,fG,fK,fN,jy⟩:=R.e0 HR.out aJ iC;subst gb)
 have iH:¬b1=w.heap.size:=aF
 have oC:¬b1=w.heap.size+1:=aF
 have HP:Hid (ez s 8 [a]=(dG s 3 ⟨cz,cD,cE,cB,cF,cO⟩)):=by
  show _=_
  unfold ez;rw[show cM 8=[3] by decide]
  exact sk
 clear iC
 go_enter func97,ntmps97
 go_wp2_with (fail)
 repeat (any_goals (go_quiet (fail);(try go_wp2_with (fail))))
 go_loopw [80] (fun v wr=>∃m:Nat,v=.int .i64 m/\m<=1/\Hid ((1<=m->Hid (dG s 3 ⟨cz,cD,cE,cB,cF,cO⟩=true)))/\U ((w.alloc (.cells #[] 3)).alloc (.cells #[.int .i64 3] 3)) wr) (fun v _=>1 - (intOf v).toNat)
 case atStart=>exact⟨0,rfl,by omega,fun h=>absurd h aF,bl⟩
 case round =>
  obtain⟨m,rfl,m1,hm,jl⟩:=hrel
  have dX:U w wr:=U.trans bl jl
  have hz:=jl.size
  simp only[World.size_alloc]at hz
  have vq:=dX.box b1 aF
  have DL:=jl.box (w.heap.size+1) aJ
  by_cases e0:m=0
  ·
   subst e0
   cases hi:eE s ⟨cz,cD,cE,cB,cF,cO⟩
   ·
    by_cases hk:cz=3
    ·
     have fk:(cz != 3)=false:=aQ
     exact Rm
    ·
     have fk:(cz != 3)=true:=aQ
     exact Rm
   ·
    by_cases hk:cz=3
    ·
     have fk:(cz != 3)=false:=aQ
     have HC:=I (show dG s 3 ⟨cz,cD,cE,cB,cF,cO⟩=true by unfold dG;rw[hi];simp[hk])
     exact zd
    ·
     have fk:(cz != 3)=true:=aQ
     exact Rm
  obtain rfl:m=1:=by omega
  have mj:=hm.out aF
  have RR:=I (show ez s 8 [a]=true by rw[HP.out,mj.out];first | done | rfl)
  exact lj
theorem rp (s:O) (its:List R) (h:its.length≠1):jL s 9 its:=by
 intro S S' q w Ai ci hs hR
 have HS:=I hs
 have hq:=hs.1
 have ga:¬q=w.heap.size:=aF
 have HR:=I hR
 have hlen:=hR.1
 have gX:=hR.2.1
 simp only[ar,aD,aE,Nat.reduceAdd]at hlen
 unfold maxLen at gX
 clear hR hs
 have RR:=I (gz (s:=s) (op:=9) (its:=its) (by rw[show (cM 9).length=1 by decide];omega))
 have f1:((its.length:Int) != 1)=true:=aM
 exact pM
theorem NF (s:O) (a:R):jL s 9 [a]:=by
 intro S S' q w Ai ci hs hR
 have HS:=I hs
 have hq:=hs.1
 have ga:¬q=w.heap.size:=aF
 have HR:=I hR
 have hlen:=hR.1
 have gX:=hR.2.1
 simp only[ar,aD,aE,Nat.reduceAdd]at hlen
 unfold maxLen at gX
 clear hR hs
 have iC:U w w:=U.refl w
 (obtain⟨b1,o1,cz,cD,cE,cB,cF,cO,gb,dS,gy,gF,kP,eN,fi,eO,fT,gD,gE,fD,fE,fG,fK,fN,jy⟩:=R.e0 HR.out aJ iC;subst gb)
 have iH:¬b1=w.heap.size:=aF
 have oC:¬b1=w.heap.size+1:=aF
 have HP:Hid (ez s 9 [a]=(dG s 3 ⟨cz,cD,cE,cB,cF,cO⟩)):=by
  show _=_
  unfold ez;rw[show cM 9=[3] by decide]
  exact sk
 clear iC
 go_enter func97,ntmps97
 go_wp2_with (fail)
 repeat (any_goals (go_quiet (fail);(try go_wp2_with (fail))))
 go_loopw [80] (fun v wr=>∃m:Nat,v=.int .i64 m/\m<=1/\Hid ((1<=m->Hid (dG s 3 ⟨cz,cD,cE,cB,cF,cO⟩=true)))/\U ((w.alloc (.cells #[] 3)).alloc (.cells #[.int .i64 3] 3)) wr) (fun v _=>1 - (intOf v).toNat)
 case atStart=>exact⟨0,rfl,by omega,fun h=>absurd h aF,bl⟩
 case round =>
  obtain⟨m,rfl,m1,hm,jl⟩:=hrel
  have dX:U w wr:=U.trans bl jl
  have hz:=jl.size
  simp only[World.size_alloc]at hz
  have vq:=dX.box b1 aF
  have DL:=jl.box (w.heap.size+1) aJ
  by_cases e0:m=0
  ·
   subst e0
   cases hi:eE s ⟨cz,cD,cE,cB,cF,cO⟩
   ·
    by_cases hk:cz=3
    ·
     have fk:(cz != 3)=false:=aQ
     exact Rn
    ·
     have fk:(cz != 3)=true:=aQ
     exact Rn
   ·
    by_cases hk:cz=3
    ·
     have fk:(cz != 3)=false:=aQ
     have HC:=I (show dG s 3 ⟨cz,cD,cE,cB,cF,cO⟩=true by unfold dG;rw[hi];simp[hk])
     exact zd
    ·
     have fk:(cz != 3)=true:=aQ
     exact Rn
  obtain rfl:m=1:=by omega
  have mj:=hm.out aF
  have RR:=I (show ez s 9 [a]=true by rw[HP.out,mj.out];first | done | rfl)
  exact lj
end Go.Proofs.YtjngkknbpfgdcaaGreatDoor
