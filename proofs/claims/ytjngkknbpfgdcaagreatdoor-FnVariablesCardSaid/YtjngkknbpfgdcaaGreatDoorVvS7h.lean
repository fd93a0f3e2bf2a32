import Derived.Test.YtjngkknbpfgdcaaGreatDoorVvS7c
import Derived.Test.YtjngkknbpfgdcaaGreatDoorVvS7d
import Derived.Test.YtjngkknbpfgdcaaGreatDoorVvS7f
import Derived.Test.YtjngkknbpfgdcaaGreatDoorVvS7i
import Derived.Test.YtjngkknbpfgdcaaGreatDoorVvS7a
import Derived.Test.YtjngkknbpfgdcaaGreatDoorVvS7j
import Derived.Test.YtjngkknbpfgdcaaGreatDoorVvS7b
import Derived.Test.YtjngkknbpfgdcaaGreatDoorVvS6c
import Derived.Test.YtjngkknbpfgdcaaGreatDoorVvS6d
import Derived.Test.YtjngkknbpfgdcaaGreatDoorVvS6f
import Derived.Test.YtjngkknbpfgdcaaGreatDoorVvS6a
import Derived.Test.YtjngkknbpfgdcaaGreatDoorVvS6b
set_option linter.unusedVariables false
set_option linter.unusedSimpArgs false
set_option maxRecDepth 100000
set_option maxHeartbeats 8000000
namespace Go.Proofs.YtjngkknbpfgdcaaGreatDoor
open Go.RowKit
theorem NY (tag J:Int) (its keys:List R) (s:O):lO 41 s (.mk 9 tag J its keys):=by
 by_cases h:J=0/\its.length=2/\(j0 its 0).k=2/\(j0 its 1).k=1
 ·
  obtain⟨jM,hlen,LK,nF⟩:=h
  obtain⟨⟨u0,u1,u2,u3,u4,u5⟩,⟨v0,v1,v2,v3,v4,v5⟩,rfl⟩:∃a b,its=[a,b]:=by
   match its,hlen with
   | [a,b],_=>exact⟨a,b,rfl⟩
  obtain rfl:u0=2:=LK
  obtain rfl:v0=1:=nF
  cases mR:fS s [.mk 2 u1 u2 u3 u4 u5,.mk 1 v1 v2 v3 v4 v5]
  ·
   exact Hu tag J u1 u2 u3 u4 u5 v1 v2 v3 v4 v5 keys s jM _ _ rfl rfl mR
  by_cases NX:1<=v1
  case neg=>exact Hw tag J u1 u2 u3 u4 u5 v1 v2 v3 v4 v5 keys s jM _ _ rfl rfl mR NX
  by_cases Wg:v1<=(u3.size:Int)+1
  ·
   exact Hy tag J u1 u2 u3 u4 u5 v1 v2 v3 v4 v5 keys s jM _ _ rfl rfl mR NX Wg
  ·
   exact Hx tag J u1 u2 u3 u4 u5 v1 v2 v3 v4 v5 keys s jM _ _ rfl rfl mR NX Wg
 ·
  exact J3 tag J its keys s h
--%quiet
theorem Dj (tag J:Int) (its keys:List R) (s:O):lO 41 s (.mk 3 tag J its keys):=by
 by_cases dn:tag=0 <;> by_cases fH:keys.length<=40
 ·
  exact HJ tag J its keys s dn fH
 ·
  exact H0 tag J its keys s dn fH
 ·
  exact H2 tag J its keys s dn fH
 ·
  exact H5 tag J its keys s dn fH
theorem qM (s:O) (ob:cr):lO 41 s ob:=by
 obtain⟨kd,tag,J,its,keys⟩:=ob
 by_cases h1:kd=1
 ·
  subst h1;exact NQ tag J its keys s
 by_cases h2:kd=2
 ·
  subst h2;exact NR tag J its keys s
 by_cases h3:kd=3
 ·
  subst h3;exact Dj tag J its keys s
 by_cases h4:kd=4
 ·
  subst h4;exact NS tag J its keys s
 by_cases h5:kd=5
 ·
  subst h5;exact NT tag J its keys s
 by_cases h6:kd=6
 ·
  subst h6;exact NV tag J its keys s
 by_cases h7:kd=7
 ·
  subst h7;exact NU tag J its keys s
 by_cases h8:kd=8
 ·
  subst h8;exact NZ tag J its keys s
 by_cases h9:kd=9
 ·
  subst h9;exact NY tag J its keys s
 exact Ht kd aF tag J its keys s
theorem Oa (tag J:Int) (its keys:List R) (s:O):lO 105 s (.mk 9 tag J its keys):=by
 by_cases h:J=0/\tag=0/\keys.length=0/\its.length=2/\(j0 its 0).k=2/\(j0 its 1).k=1
 ·
  obtain⟨jM,dn,cU,hlen,LK,nF⟩:=h
  obtain⟨⟨u0,u1,u2,u3,u4,u5⟩,⟨v0,v1,v2,v3,v4,v5⟩,rfl⟩:∃a b,its=[a,b]:=by
   match its,hlen with
   | [a,b],_=>exact⟨a,b,rfl⟩
  obtain rfl:u0=2:=LK
  obtain rfl:v0=1:=nF
  cases fR:eE s ⟨2,u1,u2,u3,u4,u5⟩
  ·
   exact Ho tag J u1 u2 u3 u4 u5 v1 v2 v3 v4 v5 keys s jM dn cU fR
  cases iT:eE s ⟨1,v1,v2,v3,v4,v5⟩
  ·
   exact Hp tag J u1 u2 u3 u4 u5 v1 v2 v3 v4 v5 keys s jM dn cU fR iT
  by_cases Hr:1<=v1/\v1<=(u3.size:Int)+1
  ·
   exact Hs tag J u1 u2 u3 u4 u5 v1 v2 v3 v4 v5 keys s jM dn cU fR iT Hr
  ·
   exact Hq tag J u1 u2 u3 u4 u5 v1 v2 v3 v4 v5 keys s jM dn cU fR iT Hr
 ·
  exact J2 tag J its keys s h
--%quiet
theorem zN (s:O) (ob:cr):lO 105 s ob:=by
 obtain⟨kd,tag,J,its,keys⟩:=ob
 by_cases h1:kd=1
 ·
  subst h1;exact NH tag J its keys s
 by_cases h2:kd=2
 ·
  subst h2;exact NI tag J its keys s
 by_cases h3:kd=3
 ·
  subst h3;exact NJ tag J its keys s
 by_cases h4:kd=4
 ·
  subst h4;exact NK tag J its keys s
 by_cases h5:kd=5
 ·
  subst h5;exact NL tag J its keys s
 by_cases h6:kd=6
 ·
  subst h6;exact NN tag J its keys s
 by_cases h7:kd=7
 ·
  subst h7;exact NM tag J its keys s
 by_cases h8:kd=8
 ·
  subst h8;exact NP tag J its keys s
 by_cases h9:kd=9
 ·
  subst h9;exact Oa tag J its keys s
 exact Hm kd aF tag J its keys s
end Go.Proofs.YtjngkknbpfgdcaaGreatDoor
