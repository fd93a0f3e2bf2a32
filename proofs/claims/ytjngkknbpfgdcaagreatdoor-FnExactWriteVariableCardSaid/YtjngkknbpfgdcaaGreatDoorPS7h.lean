import Derived.Test.YtjngkknbpfgdcaaGreatDoorPS7c
import Derived.Test.YtjngkknbpfgdcaaGreatDoorPS7d
import Derived.Test.YtjngkknbpfgdcaaGreatDoorPS7f
import Derived.Test.YtjngkknbpfgdcaaGreatDoorPS7i
import Derived.Test.YtjngkknbpfgdcaaGreatDoorPS7a
import Derived.Test.YtjngkknbpfgdcaaGreatDoorPS7j
import Derived.Test.YtjngkknbpfgdcaaGreatDoorPS7b
import Derived.Test.YtjngkknbpfgdcaaGreatDoorPS6c
import Derived.Test.YtjngkknbpfgdcaaGreatDoorPS6d
import Derived.Test.YtjngkknbpfgdcaaGreatDoorPS6f
import Derived.Test.YtjngkknbpfgdcaaGreatDoorPS6i
import Derived.Test.YtjngkknbpfgdcaaGreatDoorPS6a
import Derived.Test.YtjngkknbpfgdcaaGreatDoorPS6b
set_option linter.unusedVariables false
set_option linter.unusedSimpArgs false
set_option maxRecDepth 100000
set_option maxHeartbeats 8000000
namespace Go.Proofs.YtjngkknbpfgdcaaGreatDoor
open Go.RowKit
theorem Ld (tag cR:Int) (its keys:List cw) (s:cv):ll 41 s (.mk 9 tag cR its keys):=by
 by_cases h:cR=0/\its.length=2/\(pQ its 0).k=2/\(pQ its 1).k=1
 ·
  obtain⟨jt,hlen,hk1,hk2⟩:=h
  obtain⟨⟨u0,u1,u2,u3,u4,u5⟩,⟨v0,v1,v2,v3,v4,v5⟩,rfl⟩:∃a b,its=[a,b]:=by
   match its,hlen with
   | [a,b],_=>exact⟨a,b,rfl⟩
  obtain rfl:u0=2:=hk1
  obtain rfl:v0=1:=hk2
  cases ml:allB s [.mk 2 u1 u2 u3 u4 u5,.mk 1 v1 v2 v3 v4 v5]
  ·
   exact Fp tag cR u1 u2 u3 u4 u5 v1 v2 v3 v4 v5 keys s jt _ _ rfl rfl ml
  by_cases Lc:1<=v1
  case neg=>exact Fs tag cR u1 u2 u3 u4 u5 v1 v2 v3 v4 v5 keys s jt _ _ rfl rfl ml Lc
  by_cases Tf:v1<=(u3.size:Int)+1
  ·
   exact Fu tag cR u1 u2 u3 u4 u5 v1 v2 v3 v4 v5 keys s jt _ _ rfl rfl ml Lc Tf
  ·
   exact Ft tag cR u1 u2 u3 u4 u5 v1 v2 v3 v4 v5 keys s jt _ _ rfl rfl ml Lc Tf
 ·
  exact Ho tag cR its keys s h
--%quiet
theorem BO (tag cR:Int) (its keys:List cw) (s:cv):ll 41 s (.mk 3 tag cR its keys):=by
 by_cases dH:tag=0 <;> by_cases fM:keys.length<=40
 ·
  exact Fw tag cR its keys s dH fM
 ·
  exact Fx tag cR its keys s dH fM
 ·
  exact Fy tag cR its keys s dH fM
 ·
  exact Fz tag cR its keys s dH fM
theorem qc (s:cv) (ob:cz):ll 41 s ob:=by
 obtain⟨kd,tag,cR,its,keys⟩:=ob
 by_cases h1:kd=1
 ·
  subst h1;exact K3 tag cR its keys s
 by_cases h2:kd=2
 ·
  subst h2;exact K4 tag cR its keys s
 by_cases h3:kd=3
 ·
  subst h3;exact BO tag cR its keys s
 by_cases h4:kd=4
 ·
  subst h4;exact K5 tag cR its keys s
 by_cases h5:kd=5
 ·
  subst h5;exact K6 tag cR its keys s
 by_cases h6:kd=6
 ·
  subst h6;exact K8 tag cR its keys s
 by_cases h7:kd=7
 ·
  subst h7;exact K7 tag cR its keys s
 by_cases h8:kd=8
 ·
  subst h8;exact Lf tag cR its keys s
 by_cases h9:kd=9
 ·
  subst h9;exact Ld tag cR its keys s
 exact Fo kd aB tag cR its keys s
theorem Lg (tag cR:Int) (its keys:List cw) (s:cv):ll 105 s (.mk 9 tag cR its keys):=by
 by_cases h:cR=0/\tag=0/\keys.length=0/\its.length=2/\(pQ its 0).k=2/\(pQ its 1).k=1
 ·
  obtain⟨jt,dH,dw,hlen,hk1,hk2⟩:=h
  obtain⟨⟨u0,u1,u2,u3,u4,u5⟩,⟨v0,v1,v2,v3,v4,v5⟩,rfl⟩:∃a b,its=[a,b]:=by
   match its,hlen with
   | [a,b],_=>exact⟨a,b,rfl⟩
  obtain rfl:u0=2:=hk1
  obtain rfl:v0=1:=hk2
  cases fT:inB s ⟨2,u1,u2,u3,u4,u5⟩
  ·
   exact Fi tag cR u1 u2 u3 u4 u5 v1 v2 v3 v4 v5 keys s jt dH dw fT
  cases iA:inB s ⟨1,v1,v2,v3,v4,v5⟩
  ·
   exact Fj tag cR u1 u2 u3 u4 u5 v1 v2 v3 v4 v5 keys s jt dH dw fT iA
  by_cases Fl:1<=v1/\v1<=(u3.size:Int)+1
  ·
   exact Fm tag cR u1 u2 u3 u4 u5 v1 v2 v3 v4 v5 keys s jt dH dw fT iA Fl
  ·
   exact Fk tag cR u1 u2 u3 u4 u5 v1 v2 v3 v4 v5 keys s jt dH dw fT iA Fl
 ·
  exact Hm tag cR its keys s h
--%quiet
theorem yG (s:cv) (ob:cz):ll 105 s ob:=by
 obtain⟨kd,tag,cR,its,keys⟩:=ob
 by_cases h1:kd=1
 ·
  subst h1;exact KT tag cR its keys s
 by_cases h2:kd=2
 ·
  subst h2;exact KU tag cR its keys s
 by_cases h3:kd=3
 ·
  subst h3;exact KV tag cR its keys s
 by_cases h4:kd=4
 ·
  subst h4;exact KW tag cR its keys s
 by_cases h5:kd=5
 ·
  subst h5;exact KX tag cR its keys s
 by_cases h6:kd=6
 ·
  subst h6;exact K0 tag cR its keys s
 by_cases h7:kd=7
 ·
  subst h7;exact KZ tag cR its keys s
 by_cases h8:kd=8
 ·
  subst h8;exact K2 tag cR its keys s
 by_cases h9:kd=9
 ·
  subst h9;exact Lg tag cR its keys s
 exact Fg kd aB tag cR its keys s
end Go.Proofs.YtjngkknbpfgdcaaGreatDoor
