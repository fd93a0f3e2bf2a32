/- Objects of kind 9, the program: all ways. -/
import Derived.Test.YtoikhhnmbbbjjaaDoorPS7c
import Derived.Test.YtoikhhnmbbbjjaaDoorPS7d
import Derived.Test.YtoikhhnmbbbjjaaDoorPS7f
import Derived.Test.YtoikhhnmbbbjjaaDoorPS7i
import Derived.Test.YtoikhhnmbbbjjaaDoorPS7a
import Derived.Test.YtoikhhnmbbbjjaaDoorPS7j
import Derived.Test.YtoikhhnmbbbjjaaDoorPS7b
import Derived.Test.YtoikhhnmbbbjjaaDoorPS6c
import Derived.Test.YtoikhhnmbbbjjaaDoorPS6d
import Derived.Test.YtoikhhnmbbbjjaaDoorPS6f
import Derived.Test.YtoikhhnmbbbjjaaDoorPS6i
import Derived.Test.YtoikhhnmbbbjjaaDoorPS6a
import Derived.Test.YtoikhhnmbbbjjaaDoorPS6b
namespace Go.Proofs.YtoikhhnmbbbjjaaDoor
set_option linter.unusedVariables false
set_option linter.unusedSimpArgs false
set_option maxRecDepth 100000
open Go.RowKit
theorem implObj_9 (tag ser:Int) (its keys:List TValue) (s:TStore):ObjC 24 s (.mk 9 tag ser its keys):=by
 by_cases h:ser=0∧its.length=2∧(vAt its 0).k=2∧(vAt its 1).k=1
 ·
  obtain⟨hser,hlen,hk1,hk2⟩:=h
  obtain⟨⟨u0,u1,u2,u3,u4,u5⟩,⟨v0,v1,v2,v3,v4,v5⟩,rfl⟩:∃a b,its=[a,b]:=by
   match its,hlen with
   | [a,b],_=>exact⟨a,b,rfl⟩
  obtain rfl:u0=2:=hk1
  obtain rfl:v0=1:=hk2
  cases h_al:allB s [.mk 2 u1 u2 u3 u4 u5,.mk 1 v1 v2 v3 v4 v5]
  ·
   exact implObj_9_d tag ser u1 u2 u3 u4 u5 v1 v2 v3 v4 v5 keys s hser _ _ rfl rfl h_al
  by_cases h_r1:1≤v1
  case neg=>exact implObj_9_e tag ser u1 u2 u3 u4 u5 v1 v2 v3 v4 v5 keys s hser _ _ rfl rfl h_al h_r1
  by_cases h_r2:v1≤(u3.size:Int)+1
  ·
   exact implObj_9_g tag ser u1 u2 u3 u4 u5 v1 v2 v3 v4 v5 keys s hser _ _ rfl rfl h_al h_r1 h_r2
  ·
   exact implObj_9_f tag ser u1 u2 u3 u4 u5 v1 v2 v3 v4 v5 keys s hser _ _ rfl rfl h_al h_r1 h_r2
 ·
  exact implObj_9e tag ser its keys s h
end Go.Proofs.YtoikhhnmbbbjjaaDoor
namespace Go.Proofs.YtoikhhnmbbbjjaaDoor
set_option linter.unusedVariables false
set_option linter.unusedSimpArgs false
set_option maxRecDepth 100000
open Go.RowKit
--%quiet
theorem implObj_3_any (tag ser:Int) (its keys:List TValue) (s:TStore):ObjC 24 s (.mk 3 tag ser its keys):=by
 by_cases h_tag:tag=0 <;> by_cases h_key40:keys.length≤40
 ·
  exact implObj_3_a tag ser its keys s h_tag h_key40
 ·
  exact implObj_3_c tag ser its keys s h_tag h_key40
 ·
  exact implObj_3_b tag ser its keys s h_tag h_key40
 ·
  exact implObj_3_d tag ser its keys s h_tag h_key40
theorem implObj_any (s:TStore) (ob:TObject):ObjC 24 s ob:=by
 obtain⟨kd,tag,ser,its,keys⟩:=ob
 by_cases h1:kd=1
 ·
  subst h1;exact implObj_1 tag ser its keys s
 by_cases h2:kd=2
 ·
  subst h2;exact implObj_2 tag ser its keys s
 by_cases h3:kd=3
 ·
  subst h3;exact implObj_3_any tag ser its keys s
 by_cases h4:kd=4
 ·
  subst h4;exact implObj_4 tag ser its keys s
 by_cases h5:kd=5
 ·
  subst h5;exact implObj_5 tag ser its keys s
 by_cases h6:kd=6
 ·
  subst h6;exact implObj_6 tag ser its keys s
 by_cases h7:kd=7
 ·
  subst h7;exact implObj_7 tag ser its keys s
 by_cases h8:kd=8
 ·
  subst h8;exact implObj_8 tag ser its keys s
 by_cases h9:kd=9
 ·
  subst h9;exact implObj_9 tag ser its keys s
 exact implObj_out kd (by omega) tag ser its keys s
end Go.Proofs.YtoikhhnmbbbjjaaDoor
namespace Go.Proofs.YtoikhhnmbbbjjaaDoor
set_option linter.unusedVariables false
set_option linter.unusedSimpArgs false
set_option maxRecDepth 100000
open Go.RowKit
theorem specObj_9 (tag ser:Int) (its keys:List TValue) (s:TStore):ObjC 40 s (.mk 9 tag ser its keys):=by
 by_cases h:ser=0∧tag=0∧keys.length=0∧its.length=2∧(vAt its 0).k=2∧(vAt its 1).k=1
 ·
  obtain⟨hser,h_tag,h_key0,hlen,hk1,hk2⟩:=h
  obtain⟨⟨u0,u1,u2,u3,u4,u5⟩,⟨v0,v1,v2,v3,v4,v5⟩,rfl⟩:∃a b,its=[a,b]:=by
   match its,hlen with
   | [a,b],_=>exact⟨a,b,rfl⟩
  obtain rfl:u0=2:=hk1
  obtain rfl:v0=1:=hk2
  cases h_in1:inB s ⟨2,u1,u2,u3,u4,u5⟩
  ·
   exact specObj_9_d tag ser u1 u2 u3 u4 u5 v1 v2 v3 v4 v5 keys s hser h_tag h_key0 h_in1
  cases h_in2:inB s ⟨1,v1,v2,v3,v4,v5⟩
  ·
   exact specObj_9_e tag ser u1 u2 u3 u4 u5 v1 v2 v3 v4 v5 keys s hser h_tag h_key0 h_in1 h_in2
  by_cases h_rng:1≤v1∧v1≤(u3.size:Int)+1
  ·
   exact specObj_9_g tag ser u1 u2 u3 u4 u5 v1 v2 v3 v4 v5 keys s hser h_tag h_key0 h_in1 h_in2 h_rng
  ·
   exact specObj_9_f tag ser u1 u2 u3 u4 u5 v1 v2 v3 v4 v5 keys s hser h_tag h_key0 h_in1 h_in2 h_rng
 ·
  exact specObj_9e tag ser its keys s h
end Go.Proofs.YtoikhhnmbbbjjaaDoor
namespace Go.Proofs.YtoikhhnmbbbjjaaDoor
set_option linter.unusedVariables false
set_option linter.unusedSimpArgs false
set_option maxRecDepth 100000
open Go.RowKit
--%quiet
theorem specObj_any (s:TStore) (ob:TObject):ObjC 40 s ob:=by
 obtain⟨kd,tag,ser,its,keys⟩:=ob
 by_cases h1:kd=1
 ·
  subst h1;exact specObj_1 tag ser its keys s
 by_cases h2:kd=2
 ·
  subst h2;exact specObj_2 tag ser its keys s
 by_cases h3:kd=3
 ·
  subst h3;exact specObj_3 tag ser its keys s
 by_cases h4:kd=4
 ·
  subst h4;exact specObj_4 tag ser its keys s
 by_cases h5:kd=5
 ·
  subst h5;exact specObj_5 tag ser its keys s
 by_cases h6:kd=6
 ·
  subst h6;exact specObj_6 tag ser its keys s
 by_cases h7:kd=7
 ·
  subst h7;exact specObj_7 tag ser its keys s
 by_cases h8:kd=8
 ·
  subst h8;exact specObj_8 tag ser its keys s
 by_cases h9:kd=9
 ·
  subst h9;exact specObj_9 tag ser its keys s
 exact specObj_out kd (by omega) tag ser its keys s
end Go.Proofs.YtoikhhnmbbbjjaaDoor
