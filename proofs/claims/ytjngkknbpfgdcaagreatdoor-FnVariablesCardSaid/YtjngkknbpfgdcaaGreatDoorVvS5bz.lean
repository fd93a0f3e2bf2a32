import Derived.Test.YtjngkknbpfgdcaaGreatDoorVvS5ba
import Derived.Test.YtjngkknbpfgdcaaGreatDoorVvS5bb
import Derived.Test.YtjngkknbpfgdcaaGreatDoorVvS5bc
set_option linter.unusedVariables false
set_option linter.unusedSimpArgs false
set_option maxRecDepth 100000
set_option maxHeartbeats 8000000
namespace Go.Proofs.YtjngkknbpfgdcaaGreatDoor
open Go.RowKit
--%quiet
theorem Hk (s:O) (tag:Int) (its:List R):jL s tag its:=by
 by_cases h:tag<1\/23<tag
 ·
  exact Hh s tag its h
 by_cases e1:tag=1
 ·
  subst e1
  match its with
  | [a]=>exact Nw s a
  | []=>exact qX s _ aJ
  | [_,_]=>exact qX s _ aJ
  | _ :: _ :: _ :: _=>exact qX s _ aJ
 by_cases e2:tag=2
 ·
  subst e2
  match its with
  | [a]=>exact Nx s a
  | []=>exact qY s _ aJ
  | [_,_]=>exact qY s _ aJ
  | _ :: _ :: _ :: _=>exact qY s _ aJ
 by_cases e3:tag=3
 ·
  subst e3
  match its with
  | [a]=>exact Ny s a
  | []=>exact qZ s _ aJ
  | [_,_]=>exact qZ s _ aJ
  | _ :: _ :: _ :: _=>exact qZ s _ aJ
 by_cases e4:tag=4
 ·
  subst e4
  match its with
  | [a]=>exact Nz s a
  | []=>exact q9 s _ aJ
  | [_,_]=>exact q9 s _ aJ
  | _ :: _ :: _ :: _=>exact q9 s _ aJ
 by_cases e5:tag=5
 ·
  subst e5
  match its with
  | [a]=>exact NA s a
  | []=>exact ra s _ aJ
  | [_,_]=>exact ra s _ aJ
  | _ :: _ :: _ :: _=>exact ra s _ aJ
 by_cases e6:tag=6
 ·
  subst e6
  match its with
  | [a]=>exact NB s a
  | []=>exact rf s _ aJ
  | [_,_]=>exact rf s _ aJ
  | _ :: _ :: _ :: _=>exact rf s _ aJ
 by_cases e7:tag=7
 ·
  subst e7
  match its with
  | [a]=>exact NC s a
  | []=>exact rj s _ aJ
  | [_,_]=>exact rj s _ aJ
  | _ :: _ :: _ :: _=>exact rj s _ aJ
 by_cases e8:tag=8
 ·
  subst e8
  match its with
  | [a]=>exact ND s a
  | []=>exact rm s _ aJ
  | [_,_]=>exact rm s _ aJ
  | _ :: _ :: _ :: _=>exact rm s _ aJ
 by_cases e9:tag=9
 ·
  subst e9
  match its with
  | [a]=>exact NF s a
  | []=>exact rp s _ aJ
  | [_,_]=>exact rp s _ aJ
  | _ :: _ :: _ :: _=>exact rp s _ aJ
 by_cases iE:tag=10
 ·
  subst iE
  match its with
  | [a]=>exact JM s a
  | []=>exact pN s _ aJ
  | [_,_]=>exact pN s _ aJ
  | _ :: _ :: _ :: _=>exact pN s _ aJ
 by_cases jc:tag=11
 ·
  subst jc
  match its with
  | []=>exact JN s 
  | [_]=>exact pO s _ aJ
  | [_,_]=>exact pO s _ aJ
  | _ :: _ :: _ :: _=>exact pO s _ aJ
 by_cases jd:tag=12
 ·
  subst jd
  match its with
  | []=>exact JO s 
  | [_]=>exact pP s _ aJ
  | [_,_]=>exact pP s _ aJ
  | _ :: _ :: _ :: _=>exact pP s _ aJ
 by_cases e13:tag=13
 ·
  subst e13
  match its with
  | [a]=>exact JP s a
  | []=>exact pQ s _ aJ
  | [_,_]=>exact pQ s _ aJ
  | _ :: _ :: _ :: _=>exact pQ s _ aJ
 by_cases e14:tag=14
 ·
  subst e14
  match its with
  | [a,b]=>exact JQ s a b
  | []=>exact pR s _ aJ
  | [_]=>exact pR s _ aJ
  | _ :: _ :: _ :: _=>exact pR s _ aJ
 by_cases e15:tag=15
 ·
  subst e15
  match its with
  | [a,b]=>exact JR s a b
  | []=>exact pS s _ aJ
  | [_]=>exact pS s _ aJ
  | _ :: _ :: _ :: _=>exact pS s _ aJ
 by_cases e16:tag=16
 ·
  subst e16
  match its with
  | [a,b]=>exact JS s a b
  | []=>exact pT s _ aJ
  | [_]=>exact pT s _ aJ
  | _ :: _ :: _ :: _=>exact pT s _ aJ
 by_cases e17:tag=17
 ·
  subst e17
  match its with
  | [a,b]=>exact JU s a b
  | []=>exact pU s _ aJ
  | [_]=>exact pU s _ aJ
  | _ :: _ :: _ :: _=>exact pU s _ aJ
 by_cases e18:tag=18
 ·
  subst e18
  match its with
  | [a]=>exact JV s a
  | []=>exact pV s _ aJ
  | [_,_]=>exact pV s _ aJ
  | _ :: _ :: _ :: _=>exact pV s _ aJ
 by_cases e19:tag=19
 ·
  subst e19
  match its with
  | []=>exact JX s 
  | [_]=>exact pW s _ aJ
  | [_,_]=>exact pW s _ aJ
  | _ :: _ :: _ :: _=>exact pW s _ aJ
 by_cases e20:tag=20
 ·
  subst e20
  match its with
  | [a]=>exact JY s a
  | []=>exact pX s _ aJ
  | [_,_]=>exact pX s _ aJ
  | _ :: _ :: _ :: _=>exact pX s _ aJ
 by_cases e21:tag=21
 ·
  subst e21
  match its with
  | []=>exact JZ s 
  | [_]=>exact pY s _ aJ
  | [_,_]=>exact pY s _ aJ
  | _ :: _ :: _ :: _=>exact pY s _ aJ
 by_cases e22:tag=22
 ·
  subst e22
  match its with
  | []=>exact J0 s 
  | [_]=>exact pZ s _ aJ
  | [_,_]=>exact pZ s _ aJ
  | _ :: _ :: _ :: _=>exact pZ s _ aJ
 by_cases e23:tag=23
 ·
  subst e23
  match its with
  | []=>exact J1 s 
  | [_]=>exact qa s _ aJ
  | [_,_]=>exact qa s _ aJ
  | _ :: _ :: _ :: _=>exact qa s _ aJ
 omega
theorem ze {a b:Nat} (ha:a<=9223372036854775807) (hb:b<=9223372036854775807):((a:Int)==wrap64 (1+(b:Int)))=decide (a=b+1):=by
 rw[Bool.eq_iff_iff,aB,decide_eq_true_iff];unfold wrap64;omega
end Go.Proofs.YtjngkknbpfgdcaaGreatDoor
