import Derived.Test.YtjngkknbpfgdcaaGreatDoorPS5ba
import Derived.Test.YtjngkknbpfgdcaaGreatDoorPS5bb
import Derived.Test.YtjngkknbpfgdcaaGreatDoorPS5bc
import Derived.Test.YtjngkknbpfgdcaaGreatDoorPShelf
import Derived.Deep.RegionHeld3
import Derived.Deep.RegionWith
set_option linter.unusedVariables false
set_option linter.unusedSimpArgs false
set_option maxRecDepth 100000
set_option maxHeartbeats 8000000
namespace Go.Proofs.YtjngkknbpfgdcaaGreatDoor
open Go.RowKit
--%quiet
theorem Fa (s:cv) (tag:Int) (its:List cw):js s tag its:=by
 by_cases h:tag<1\/23<tag
 ·
  exact E4 s tag its h
 by_cases e1:tag=1
 ·
  subst e1
  match its with
  | [a]=>exact KJ s a
  | []=>exact qm s _ aK
  | [_,_]=>exact qm s _ aK
  | _ :: _ :: _ :: _=>exact qm s _ aK
 by_cases e2:tag=2
 ·
  subst e2
  match its with
  | [a]=>exact KK s a
  | []=>exact qn s _ aK
  | [_,_]=>exact qn s _ aK
  | _ :: _ :: _ :: _=>exact qn s _ aK
 by_cases e3:tag=3
 ·
  subst e3
  match its with
  | [a]=>exact KL s a
  | []=>exact qo s _ aK
  | [_,_]=>exact qo s _ aK
  | _ :: _ :: _ :: _=>exact qo s _ aK
 by_cases e4:tag=4
 ·
  subst e4
  match its with
  | [a]=>exact KM s a
  | []=>exact qp s _ aK
  | [_,_]=>exact qp s _ aK
  | _ :: _ :: _ :: _=>exact qp s _ aK
 by_cases e5:tag=5
 ·
  subst e5
  match its with
  | [a]=>exact KN s a
  | []=>exact qq s _ aK
  | [_,_]=>exact qq s _ aK
  | _ :: _ :: _ :: _=>exact qq s _ aK
 by_cases e6:tag=6
 ·
  subst e6
  match its with
  | [a]=>exact KO s a
  | []=>exact qs s _ aK
  | [_,_]=>exact qs s _ aK
  | _ :: _ :: _ :: _=>exact qs s _ aK
 by_cases e7:tag=7
 ·
  subst e7
  match its with
  | [a]=>exact KP s a
  | []=>exact qt s _ aK
  | [_,_]=>exact qt s _ aK
  | _ :: _ :: _ :: _=>exact qt s _ aK
 by_cases e8:tag=8
 ·
  subst e8
  match its with
  | [a]=>exact KQ s a
  | []=>exact qu s _ aK
  | [_,_]=>exact qu s _ aK
  | _ :: _ :: _ :: _=>exact qu s _ aK
 by_cases e9:tag=9
 ·
  subst e9
  match its with
  | [a]=>exact KR s a
  | []=>exact qv s _ aK
  | [_,_]=>exact qv s _ aK
  | _ :: _ :: _ :: _=>exact qv s _ aK
 by_cases e10:tag=10
 ·
  subst e10
  match its with
  | [a]=>exact GW s a
  | []=>exact pk s _ aK
  | [_,_]=>exact pk s _ aK
  | _ :: _ :: _ :: _=>exact pk s _ aK
 by_cases e11:tag=11
 ·
  subst e11
  match its with
  | []=>exact GX s 
  | [_]=>exact pn s _ aK
  | [_,_]=>exact pn s _ aK
  | _ :: _ :: _ :: _=>exact pn s _ aK
 by_cases e12:tag=12
 ·
  subst e12
  match its with
  | []=>exact GY s 
  | [_]=>exact po s _ aK
  | [_,_]=>exact po s _ aK
  | _ :: _ :: _ :: _=>exact po s _ aK
 by_cases e13:tag=13
 ·
  subst e13
  match its with
  | [a]=>exact GZ s a
  | []=>exact pq s _ aK
  | [_,_]=>exact pq s _ aK
  | _ :: _ :: _ :: _=>exact pq s _ aK
 by_cases e14:tag=14
 ·
  subst e14
  match its with
  | [a,b]=>exact G5 s a b
  | []=>exact pt s _ aK
  | [_]=>exact pt s _ aK
  | _ :: _ :: _ :: _=>exact pt s _ aK
 by_cases e15:tag=15
 ·
  subst e15
  match its with
  | [a,b]=>exact G9 s a b
  | []=>exact py s _ aK
  | [_]=>exact py s _ aK
  | _ :: _ :: _ :: _=>exact py s _ aK
 by_cases e16:tag=16
 ·
  subst e16
  match its with
  | [a,b]=>exact Ha s a b
  | []=>exact pz s _ aK
  | [_]=>exact pz s _ aK
  | _ :: _ :: _ :: _=>exact pz s _ aK
 by_cases e17:tag=17
 ·
  subst e17
  match its with
  | [a,b]=>exact Hc s a b
  | []=>exact pA s _ aK
  | [_]=>exact pA s _ aK
  | _ :: _ :: _ :: _=>exact pA s _ aK
 by_cases e18:tag=18
 ·
  subst e18
  match its with
  | [a]=>exact Hd s a
  | []=>exact pB s _ aK
  | [_,_]=>exact pB s _ aK
  | _ :: _ :: _ :: _=>exact pB s _ aK
 by_cases e19:tag=19
 ·
  subst e19
  match its with
  | []=>exact He s 
  | [_]=>exact pC s _ aK
  | [_,_]=>exact pC s _ aK
  | _ :: _ :: _ :: _=>exact pC s _ aK
 by_cases e20:tag=20
 ·
  subst e20
  match its with
  | [a]=>exact Hf s a
  | []=>exact pD s _ aK
  | [_,_]=>exact pD s _ aK
  | _ :: _ :: _ :: _=>exact pD s _ aK
 by_cases e21:tag=21
 ·
  subst e21
  match its with
  | []=>exact Hg s 
  | [_]=>exact pE s _ aK
  | [_,_]=>exact pE s _ aK
  | _ :: _ :: _ :: _=>exact pE s _ aK
 by_cases e22:tag=22
 ·
  subst e22
  match its with
  | []=>exact Hj s 
  | [_]=>exact pF s _ aK
  | [_,_]=>exact pF s _ aK
  | _ :: _ :: _ :: _=>exact pF s _ aK
 by_cases e23:tag=23
 ·
  subst e23
  match its with
  | []=>exact Hk s 
  | [_]=>exact pG s _ aK
  | [_,_]=>exact pG s _ aK
  | _ :: _ :: _ :: _=>exact pG s _ aK
 omega
theorem yb {a b:Nat} (ha:a<=9223372036854775807) (hb:b<=9223372036854775807):((a:Int)==wrap64 (1+(b:Int)))=decide (a=b+1):=by
 rw[Bool.eq_iff_iff,ax,decide_eq_true_iff];unfold wrap64;omega
end Go.Proofs.YtjngkknbpfgdcaaGreatDoor
