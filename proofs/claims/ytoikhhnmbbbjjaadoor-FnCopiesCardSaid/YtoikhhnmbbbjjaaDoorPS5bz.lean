/- The program: pattern objects. -/
import Derived.Test.YtoikhhnmbbbjjaaDoorPS5ba
import Derived.Test.YtoikhhnmbbbjjaaDoorPS5bb
import Derived.Test.YtoikhhnmbbbjjaaDoorPS5bc
import Derived.Test.YtoikhhnmbbbjjaaDoorPShelf
import Derived.Deep.RegionHeld3
import Derived.Deep.RegionWith
namespace Go.Proofs.YtoikhhnmbbbjjaaDoor
set_option linter.unusedVariables false
set_option linter.unusedSimpArgs false
set_option maxRecDepth 100000
open Go.RowKit
--%quiet
theorem implPat_any (s:TStore) (tag:Int) (its:List TValue):PatI s tag its:=by
 by_cases h:tag<1∨23<tag
 ·
  exact implPat_out s tag its h
 by_cases e1:tag=1
 ·
  subst e1
  match its with
  | [a]=>exact implPat_1 s a
  | []=>exact implPat_len_1 s _ (by simp)
  | [_,_]=>exact implPat_len_1 s _ (by simp)
  | _ :: _ :: _ :: _=>exact implPat_len_1 s _ (by simp)
 by_cases e2:tag=2
 ·
  subst e2
  match its with
  | [a]=>exact implPat_2 s a
  | []=>exact implPat_len_2 s _ (by simp)
  | [_,_]=>exact implPat_len_2 s _ (by simp)
  | _ :: _ :: _ :: _=>exact implPat_len_2 s _ (by simp)
 by_cases e3:tag=3
 ·
  subst e3
  match its with
  | [a]=>exact implPat_3 s a
  | []=>exact implPat_len_3 s _ (by simp)
  | [_,_]=>exact implPat_len_3 s _ (by simp)
  | _ :: _ :: _ :: _=>exact implPat_len_3 s _ (by simp)
 by_cases e4:tag=4
 ·
  subst e4
  match its with
  | [a]=>exact implPat_4 s a
  | []=>exact implPat_len_4 s _ (by simp)
  | [_,_]=>exact implPat_len_4 s _ (by simp)
  | _ :: _ :: _ :: _=>exact implPat_len_4 s _ (by simp)
 by_cases e5:tag=5
 ·
  subst e5
  match its with
  | [a]=>exact implPat_5 s a
  | []=>exact implPat_len_5 s _ (by simp)
  | [_,_]=>exact implPat_len_5 s _ (by simp)
  | _ :: _ :: _ :: _=>exact implPat_len_5 s _ (by simp)
 by_cases e6:tag=6
 ·
  subst e6
  match its with
  | [a]=>exact implPat_6 s a
  | []=>exact implPat_len_6 s _ (by simp)
  | [_,_]=>exact implPat_len_6 s _ (by simp)
  | _ :: _ :: _ :: _=>exact implPat_len_6 s _ (by simp)
 by_cases e7:tag=7
 ·
  subst e7
  match its with
  | [a]=>exact implPat_7 s a
  | []=>exact implPat_len_7 s _ (by simp)
  | [_,_]=>exact implPat_len_7 s _ (by simp)
  | _ :: _ :: _ :: _=>exact implPat_len_7 s _ (by simp)
 by_cases e8:tag=8
 ·
  subst e8
  match its with
  | [a]=>exact implPat_8 s a
  | []=>exact implPat_len_8 s _ (by simp)
  | [_,_]=>exact implPat_len_8 s _ (by simp)
  | _ :: _ :: _ :: _=>exact implPat_len_8 s _ (by simp)
 by_cases e9:tag=9
 ·
  subst e9
  match its with
  | [a]=>exact implPat_9 s a
  | []=>exact implPat_len_9 s _ (by simp)
  | [_,_]=>exact implPat_len_9 s _ (by simp)
  | _ :: _ :: _ :: _=>exact implPat_len_9 s _ (by simp)
 by_cases e10:tag=10
 ·
  subst e10
  match its with
  | [a]=>exact implPat_10 s a
  | []=>exact implPat_len_10 s _ (by simp)
  | [_,_]=>exact implPat_len_10 s _ (by simp)
  | _ :: _ :: _ :: _=>exact implPat_len_10 s _ (by simp)
 by_cases e11:tag=11
 ·
  subst e11
  match its with
  | []=>exact implPat_11 s 
  | [_]=>exact implPat_len_11 s _ (by simp)
  | [_,_]=>exact implPat_len_11 s _ (by simp)
  | _ :: _ :: _ :: _=>exact implPat_len_11 s _ (by simp)
 by_cases e12:tag=12
 ·
  subst e12
  match its with
  | []=>exact implPat_12 s 
  | [_]=>exact implPat_len_12 s _ (by simp)
  | [_,_]=>exact implPat_len_12 s _ (by simp)
  | _ :: _ :: _ :: _=>exact implPat_len_12 s _ (by simp)
 by_cases e13:tag=13
 ·
  subst e13
  match its with
  | [a]=>exact implPat_13 s a
  | []=>exact implPat_len_13 s _ (by simp)
  | [_,_]=>exact implPat_len_13 s _ (by simp)
  | _ :: _ :: _ :: _=>exact implPat_len_13 s _ (by simp)
 by_cases e14:tag=14
 ·
  subst e14
  match its with
  | [a,b]=>exact implPat_14 s a b
  | []=>exact implPat_len_14 s _ (by simp)
  | [_]=>exact implPat_len_14 s _ (by simp)
  | _ :: _ :: _ :: _=>exact implPat_len_14 s _ (by simp)
 by_cases e15:tag=15
 ·
  subst e15
  match its with
  | [a,b]=>exact implPat_15 s a b
  | []=>exact implPat_len_15 s _ (by simp)
  | [_]=>exact implPat_len_15 s _ (by simp)
  | _ :: _ :: _ :: _=>exact implPat_len_15 s _ (by simp)
 by_cases e16:tag=16
 ·
  subst e16
  match its with
  | [a,b]=>exact implPat_16 s a b
  | []=>exact implPat_len_16 s _ (by simp)
  | [_]=>exact implPat_len_16 s _ (by simp)
  | _ :: _ :: _ :: _=>exact implPat_len_16 s _ (by simp)
 by_cases e17:tag=17
 ·
  subst e17
  match its with
  | [a,b]=>exact implPat_17 s a b
  | []=>exact implPat_len_17 s _ (by simp)
  | [_]=>exact implPat_len_17 s _ (by simp)
  | _ :: _ :: _ :: _=>exact implPat_len_17 s _ (by simp)
 by_cases e18:tag=18
 ·
  subst e18
  match its with
  | [a]=>exact implPat_18 s a
  | []=>exact implPat_len_18 s _ (by simp)
  | [_,_]=>exact implPat_len_18 s _ (by simp)
  | _ :: _ :: _ :: _=>exact implPat_len_18 s _ (by simp)
 by_cases e19:tag=19
 ·
  subst e19
  match its with
  | []=>exact implPat_19 s 
  | [_]=>exact implPat_len_19 s _ (by simp)
  | [_,_]=>exact implPat_len_19 s _ (by simp)
  | _ :: _ :: _ :: _=>exact implPat_len_19 s _ (by simp)
 by_cases e20:tag=20
 ·
  subst e20
  match its with
  | [a]=>exact implPat_20 s a
  | []=>exact implPat_len_20 s _ (by simp)
  | [_,_]=>exact implPat_len_20 s _ (by simp)
  | _ :: _ :: _ :: _=>exact implPat_len_20 s _ (by simp)
 by_cases e21:tag=21
 ·
  subst e21
  match its with
  | []=>exact implPat_21 s 
  | [_]=>exact implPat_len_21 s _ (by simp)
  | [_,_]=>exact implPat_len_21 s _ (by simp)
  | _ :: _ :: _ :: _=>exact implPat_len_21 s _ (by simp)
 by_cases e22:tag=22
 ·
  subst e22
  match its with
  | []=>exact implPat_22 s 
  | [_]=>exact implPat_len_22 s _ (by simp)
  | [_,_]=>exact implPat_len_22 s _ (by simp)
  | _ :: _ :: _ :: _=>exact implPat_len_22 s _ (by simp)
 by_cases e23:tag=23
 ·
  subst e23
  match its with
  | []=>exact implPat_23 s 
  | [_]=>exact implPat_len_23 s _ (by simp)
  | [_,_]=>exact implPat_len_23 s _ (by simp)
  | _ :: _ :: _ :: _=>exact implPat_len_23 s _ (by simp)
 omega
end Go.Proofs.YtoikhhnmbbbjjaaDoor
namespace Go.Proofs.YtoikhhnmbbbjjaaDoor
set_option linter.unusedVariables false
set_option linter.unusedSimpArgs false
set_option maxRecDepth 100000
open Go.RowKit
theorem itk_eq {a b:Nat} (ha:a≤9223372036854775807) (hb:b≤9223372036854775807):((a:Int)==wrap64 (1+(b:Int)))=decide (a=b+1):=by
 rw[Bool.eq_iff_iff,beq_iff_eq,decide_eq_true_iff];unfold wrap64;omega
end Go.Proofs.YtoikhhnmbbbjjaaDoor
