/- Objects of kind 9, the reference: all ways. -/
import Derived.Test.YtppmgodahloogaaGreatDoorPS6c
import Derived.Test.YtppmgodahloogaaGreatDoorPS6d
import Derived.Test.YtppmgodahloogaaGreatDoorPS6f
import Derived.Test.YtppmgodahloogaaGreatDoorPS6i
import Derived.Test.YtppmgodahloogaaGreatDoorPS6a
import Derived.Test.YtppmgodahloogaaGreatDoorPS6j
import Derived.Test.YtppmgodahloogaaGreatDoorPS6b
namespace Go.Proofs.YtppmgodahloogaaGreatDoor
set_option linter.unusedVariables false
set_option linter.unusedSimpArgs false
set_option maxRecDepth 100000
open Go.RowKit
theorem specObj_9 (tag ser:Int) (its keys:List TValue) (s:TStore):ObjC 75 s (.mk 9 tag ser its keys):=by
 by_cases h:ser=0∧tag=0∧keys.length=0∧its.length=2∧(vAt its 0).k=2∧(vAt its 1).k=1
 ·
  obtain⟨hser,h_tag,h_key0,hlen,hk1,hk2⟩:=h
  obtain⟨⟨u0,u1,u2,u3,u4,u5⟩,⟨v0,v1,v2,v3,v4,v5⟩,rfl⟩:∃a b,its=[a,b]:=by
   match its,hlen with
   | [a,b],_=>exact⟨a,b,rfl⟩
  obtain rfl:u0=2:=hk1
  obtain rfl:v0=1:=hk2
  cases h_in1:inB s ⟨2,u1,u2,u3,u4,u5⟩
  ·
   exact specObj_9_d tag ser u1 u2 u3 u4 u5 v1 v2 v3 v4 v5 keys s hser h_tag h_key0 h_in1
  cases h_in2:inB s ⟨1,v1,v2,v3,v4,v5⟩
  ·
   exact specObj_9_e tag ser u1 u2 u3 u4 u5 v1 v2 v3 v4 v5 keys s hser h_tag h_key0 h_in1 h_in2
  by_cases h_rng:1≤v1∧v1≤(u3.size:Int)+1
  ·
   exact specObj_9_g tag ser u1 u2 u3 u4 u5 v1 v2 v3 v4 v5 keys s hser h_tag h_key0 h_in1 h_in2 h_rng
  ·
   exact specObj_9_f tag ser u1 u2 u3 u4 u5 v1 v2 v3 v4 v5 keys s hser h_tag h_key0 h_in1 h_in2 h_rng
 ·
  exact specObj_9e tag ser its keys s h
end Go.Proofs.YtppmgodahloogaaGreatDoor
namespace Go.Proofs.YtppmgodahloogaaGreatDoor
set_option linter.unusedVariables false
set_option linter.unusedSimpArgs false
set_option maxRecDepth 100000
open Go.RowKit
--%quiet
theorem specObj_any (s:TStore) (ob:TObject):ObjC 75 s ob:=by
 obtain⟨kd,tag,ser,its,keys⟩:=ob
 by_cases h1:kd=1
 ·
  subst h1;exact specObj_1 tag ser its keys s
 by_cases h2:kd=2
 ·
  subst h2;exact specObj_2 tag ser its keys s
 by_cases h3:kd=3
 ·
  subst h3;exact specObj_3 tag ser its keys s
 by_cases h4:kd=4
 ·
  subst h4;exact specObj_4 tag ser its keys s
 by_cases h5:kd=5
 ·
  subst h5;exact specObj_5 tag ser its keys s
 by_cases h6:kd=6
 ·
  subst h6;exact specObj_6 tag ser its keys s
 by_cases h7:kd=7
 ·
  subst h7;exact specObj_7 tag ser its keys s
 by_cases h8:kd=8
 ·
  subst h8;exact specObj_8 tag ser its keys s
 by_cases h9:kd=9
 ·
  subst h9;exact specObj_9 tag ser its keys s
 exact specObj_out kd (by omega) tag ser its keys s
end Go.Proofs.YtppmgodahloogaaGreatDoor
