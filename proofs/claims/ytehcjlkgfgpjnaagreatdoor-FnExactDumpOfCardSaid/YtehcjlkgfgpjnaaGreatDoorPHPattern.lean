/- The laws' helpers of Pattern: what is left behind a datum, copies, comparison. -/
import Derived.Test.YtehcjlkgfgpjnaaGreatDoorPB
import Derived.Deep.QuietTactic
import Derived.BigQuiet
import Derived.Test.YtehcjlkgfgpjnaaGreatDoorPQc
import Derived.Test.YtehcjlkgfgpjnaaGreatDoorPE7
import Derived.Lib.ItoaLen
import Derived.Laws.Concat
import Derived.Test.YtehcjlkgfgpjnaaGreatDoorPShelf
import Derived.Test.YtehcjlkgfgpjnaaGreatDoorPShelfJ
import Derived.Lib.AppendStr
namespace Go.Proofs.YtehcjlkgfgpjnaaGreatDoor
set_option linter.unusedVariables false
set_option linter.unusedSimpArgs false
set_option maxRecDepth 100000
open Go.RowKit
mutual
def TPattern.cnt:TPattern→Nat
 | .mk _ _ _ _ _ ks=>1+TPattern.cnts ks
def TPattern.cnts:List TPattern→Nat
 | []=>0
 | x :: r=>TPattern.cnt x+TPattern.cnts r
end
end Go.Proofs.YtehcjlkgfgpjnaaGreatDoor
namespace Go.Proofs.YtehcjlkgfgpjnaaGreatDoor
set_option linter.unusedVariables false
set_option linter.unusedSimpArgs false
set_option maxRecDepth 100000
open Go.RowKit
def kidsN (op:Int):Nat:=if op=13∨op=16∨op=17 then 1 else if op=14∨op=15 then 2 else 0
def nodeA (op lo hi:Int) (t:ByteArray) (m:Nat):Prop:=1≤op∧op≤23∧m=kidsN op∧(op=1∨t.size=0)∧t.size≤120∧((7≤op∧op≤10)∨(lo=0∧hi=0))
def nodeN (op n vars:Int):Prop:=if 2≤op∧op≤6 then 0≤n∧n≤120 else if op=16∨op=17∨op=18∨op=20 then 0≤n∧n<vars else n=0
instance (op lo hi:Int) (t:ByteArray) (m:Nat):Decidable (nodeA op lo hi t m):=by unfold nodeA;infer_instance
instance (op n vars:Int):Decidable (nodeN op n vars):=by unfold nodeN;infer_instance
end Go.Proofs.YtehcjlkgfgpjnaaGreatDoor
namespace Go.Proofs.YtehcjlkgfgpjnaaGreatDoor
set_option linter.unusedVariables false
set_option linter.unusedSimpArgs false
set_option maxRecDepth 100000
open Go.RowKit
def sumS:List ByteArray→Nat
 | []=>0
 | x :: r=>x.size+sumS r
end Go.Proofs.YtehcjlkgfgpjnaaGreatDoor
namespace Go.Proofs.YtehcjlkgfgpjnaaGreatDoor
set_option linter.unusedVariables false
set_option linter.unusedSimpArgs false
set_option maxRecDepth 100000
open Go.RowKit
mutual
def TCore.cnt:TCore→Nat
 | .mk _ _ _ _ _ ks=>1+TCore.cnts ks
def TCore.cnts:List TCore→Nat
 | []=>0
 | x :: r=>TCore.cnt x+TCore.cnts r
end
end Go.Proofs.YtehcjlkgfgpjnaaGreatDoor
namespace Go.Proofs.YtehcjlkgfgpjnaaGreatDoor
set_option linter.unusedVariables false
set_option linter.unusedSimpArgs false
set_option maxRecDepth 100000
open Go.RowKit
def opBig (n:Int):Prop:=(220≤n∧n≤225)∨(250≤n∧n≤254)
instance (n:Int):Decidable (opBig n):=by unfold opBig;infer_instance
end Go.Proofs.YtehcjlkgfgpjnaaGreatDoor
namespace Go.Proofs.YtehcjlkgfgpjnaaGreatDoor
set_option linter.unusedVariables false
set_option linter.unusedSimpArgs false
set_option maxRecDepth 100000
open Go.RowKit
def joinR (by_:ByteArray):List ByteArray→ByteArray
 | []=>ByteArray.empty
 | x :: r=>by_++x++joinR by_ r
def joinC (by_:ByteArray):List ByteArray→ByteArray
 | []=>ByteArray.empty
 | x :: r=>x++joinR by_ r
theorem joinR_snoc (b x:ByteArray):∀l,joinR b (l++[x])=joinR b l++b++x
 | []=>by simp[joinR]
 | y :: r=>by simp only[List.cons_append,joinR,joinR_snoc b x r,ByteArray.append_assoc]
theorem joinC_take (b:ByteArray):∀(l:List ByteArray) (k:Nat) (h:k<l.length),joinC b (l.take (k+1))=joinC b (l.take k)++(if 0<k then b else ByteArray.empty)++l[k]
 | x :: r,0,_=>by simp[joinC,joinR]
 | x :: r,k+1,h=>by
  have hk:k<r.length:=by simpa using h
  have e:r.take (k+1)=r.take k++[r[k]]:=by rw[List.take_succ_eq_append_getElem hk]
  simp only[List.take_succ_cons,joinC,e,joinR_snoc,List.getElem_cons_succ,Nat.zero_lt_succ,if_true,ByteArray.append_assoc]
theorem joinR_size (b:ByteArray):∀l,(joinR b l).size=b.size*l.length+sumS l
 | []=>by simp[joinR,sumS]
 | x :: r=>by simp only[joinR,ByteArray.size_append,joinR_size b r,sumS,List.length_cons,Nat.mul_add];omega
theorem joinC_size (b:ByteArray):∀l,(joinC b l).size≤b.size*l.length+sumS l
 | []=>by simp[joinC,sumS]
 | x :: r=>by simp only[joinC,ByteArray.size_append,joinR_size b r,sumS,List.length_cons,Nat.mul_add];omega
end Go.Proofs.YtehcjlkgfgpjnaaGreatDoor
namespace Go.Proofs.YtehcjlkgfgpjnaaGreatDoor
set_option linter.unusedVariables false
set_option linter.unusedSimpArgs false
set_option maxRecDepth 100000
open Go.RowKit
theorem strCells_append (a b:ByteArray):Lib.strCells (a++b)=Lib.strCells a++Lib.strCells b:=by
 simp[Lib.strCells]
def bsL (s:ByteArray):List Nat:=s.data.toList.map UInt8.toNat
theorem bsL_txt (s:ByteArray):txt (bsL s)=s:=by
 unfold txt bsL
 rw[List.map_map]
 have:(UInt8.ofNat ∘ UInt8.toNat)=id:=by funext x;simp
 rw[this,List.map_id]
theorem bsL_lt (s:ByteArray):∀x∈bsL s,x<256:=by
 intro x hx
 obtain⟨y,-,rfl⟩:=List.mem_map.1 hx
 exact UInt8.toNat_lt _
theorem bsL_len (s:ByteArray):(bsL s).length=s.size:=by simp[bsL]
theorem ByL_bsL (s:ByteArray):ByL (bsL s)=Lib.strCells s:=by
 simp[ByL,bsL,Lib.strCells]
theorem bytes_text2 (s:ByteArray) (wr:World) (base:Nat) (v:Value) (h:wr.ownsRow base 5 1 v s.size (Lib.strCells s)) :
  (convert 43 9 v).run Tryz.prog wr=.ok (.string s) wr:=by
 have:=bytes_text (bsL s) (bsL_lt s) wr base v (by rw[bsL_len,ByL_bsL];exact h)
 rw[bsL_txt]at this;exact this
theorem joinC_take_le (b:ByteArray) (l:List ByteArray):∀k,(joinC b (l.take k)).size≤b.size*l.length+sumS l:=by
 have hs:∀(l:List ByteArray) k,sumS (l.take k)≤sumS l:=by
  intro l
  induction l with
  | nil=>intro k;simp[sumS]
  | cons x r ih=>intro k;cases k with
   | zero=>simp[sumS]
   | succ k=>have:=ih k;simp only[List.take_succ_cons,sumS];omega
 intro k
 have h1:=joinC_size b (l.take k)
 have h2:=hs l k
 have h3:b.size*(l.take k).length≤b.size*l.length:=Nat.mul_le_mul_left _ (by rw[List.length_take];omega)
 omega
set_option maxHeartbeats 2000000 in
theorem l1Joined_any (xs:List ByteArray) (sep:ByteArray) (b o c:Nat) (w:World) (hb:b<w.heap.size) (hc:∀i (h:i<xs.length),w.cell? ⟨b,o+i,none⟩=some (.string xs[i]))
  (hl:xs.length≤c) (hcm:c≤maxLen) (hsz:sep.size*xs.length+sumS xs≤4000000000) :
  Calls Tryz.prog 97 #[.slice (some ⟨b,o,none⟩) xs.length c,.string sep] w fun e w'=>e=.returned (.string (joinC sep xs))∧Bel w w':=by
 obtain⟨i0,hi0,iz0,iz1,iz2⟩:=info_parts infoQ8
 have HC:=hide hc
 clear hc
 unfold maxLen at hcm
 go_enter Tryz.func97,Tryz.ntmps97
 go_wp2_with (fail)
 go_loopw [5,6] (fun v i wr=>∃k:Nat,i=.int .i64 k∧k≤xs.length∧wr.ownsRow w.heap.size 5 1 v (joinC sep (xs.take k)).size (Lib.strCells (joinC sep (xs.take k)))∧Bel w wr) (fun _ i _=>xs.length - (intOf i).toNat)
 case atStart=>exact⟨0,rfl,by omega,own_new w _ _ 0 #[] (Nat.le_refl _) rfl (by unfold maxLen;omega),bl⟩
 case round =>
  obtain⟨k,rfl,hk,hown,hbw⟩:=hrel
  have hjk:=joinC_take_le sep xs k
  by_cases h:k<xs.length
  ·
   have hd:decide ((k:Int)<(xs.length:Int))=true:=by simp;omega
   have hx1:wr.cell? ⟨b,o+k,none⟩=some (.string xs[k]):=by rw[hbw.cell hb];exact HC.out k h
   have hj1:=joinC_take_le sep xs (k+1)
   have HJ:=hide (joinC_take sep xs k h)
   rcases Nat.eq_zero_or_pos k with h0 | h0
   ·
    have f1:decide (0<(k:Int))=false:=by simp;omega
    have f2:decide (0<k)=false:=by simp;omega
    have HE:Hid (joinC sep (xs.take (k+1))=joinC sep (xs.take k)++xs[k]):=by show _=_;rw[HJ.out,if_neg (by omega)];simp
    have hsz1:(joinC sep (xs.take (k+1))).size=(joinC sep (xs.take k)).size+xs[k].size:=by rw[HE.out,ByteArray.size_append]
    clear h0
    go_wp2_with (at_builtin;(go_loud (refine Lib.wpList_append_own_string _ rfl _ _ 43 9 rfl w.heap.size 5 i0 Tryz.underlying43 Tryz.underlying9 hi0 iz0 iz1 iz2 _ _ _ rfl hown xs[k] rfl ?c3 ?c4 ?c5 ?_)))
    case c3=>unfold maxLen;omega
    case c4=>omega
    case c5=>have:=hbw.size;omega
    intro v' w9 hown9 hgrow _
    have hbw9:Bel w w9:=Below.grown hbw hgrow (by have:=hbw.size;omega) (fun x hx=>by have:=(hown.lt x hx).1;omega)
    rw[←strCells_append,←hsz1,←HE.out]at hown9
    clear hgrow
    go_wp2_with (fail)
    exact⟨⟨k+1,by go_num,by omega,hown9,hbw9⟩,by simp only[intOf];omega⟩
   ·
    have f1:decide (0<(k:Int))=true:=by simp;omega
    have f2:decide (0<k)=true:=by simp;omega
    have HE:Hid (joinC sep (xs.take (k+1))=joinC sep (xs.take k)++sep++xs[k]):=by show _=_;rw[HJ.out,if_pos h0]
    have hsz1:(joinC sep (xs.take (k+1))).size=(joinC sep (xs.take k)).size+sep.size+xs[k].size:=by rw[HE.out,ByteArray.size_append,ByteArray.size_append]
    clear h0
    go_wp2_with (at_builtin;(go_loud (refine Lib.wpList_append_own_string _ rfl _ _ 43 9 rfl w.heap.size 5 i0 Tryz.underlying43 Tryz.underlying9 hi0 iz0 iz1 iz2 _ _ _ rfl hown sep rfl ?c3 ?c4 ?c5 ?_)))
    case c3=>unfold maxLen;omega
    case c4=>omega
    case c5=>have:=hbw.size;omega
    intro v' w9 hown9 hgrow _
    have hbw9:Bel w w9:=Below.grown hbw hgrow (by have:=hbw.size;omega) (fun x hx=>by have:=(hown.lt x hx).1;omega)
    rw[←strCells_append]at hown9
    have hx9:w9.cell? ⟨b,o+k,none⟩=some (.string xs[k]):=by rw[hbw9.cell hb];exact HC.out k h
    clear hgrow hown hx1
    go_wp2_with (at_builtin;(go_loud (refine Lib.wpList_append_own_string _ rfl _ _ 43 9 rfl w.heap.size 5 i0 Tryz.underlying43 Tryz.underlying9 hi0 iz0 iz1 iz2 _ _ _ rfl hown9 xs[k] rfl ?c3 ?c4 ?c5 ?_)))
    case c3=>unfold maxLen;omega
    case c4=>omega
    case c5=>have:=hbw9.size;omega
    intro v'' w8 hown8 hgrow8 _
    have hbw8:Bel w w8:=Below.grown hbw9 hgrow8 (by have:=hbw9.size;omega) (fun x hx=>by have:=(hown9.lt x hx).1;omega)
    rw[←strCells_append,←hsz1,←HE.out]at hown8
    clear hgrow8
    go_wp2_with (fail)
    exact⟨⟨k+1,by go_num,by omega,hown8,hbw8⟩,by simp only[intOf];omega⟩
  ·
   have hd:decide ((k:Int)<(xs.length:Int))=false:=by simp;omega
   have hk2:k=xs.length:=by omega
   subst hk2
   rw[List.take_length]at hown
   have hT:=bytes_text2 _ _ _ _ hown
   go_wp2_with (fail)
   all_goals
    go_returns
    exact⟨rfl,hbw⟩
end Go.Proofs.YtehcjlkgfgpjnaaGreatDoor
namespace Go.Proofs.YtehcjlkgfgpjnaaGreatDoor
set_option linter.unusedVariables false
set_option linter.unusedSimpArgs false
set_option maxRecDepth 100000
open Go.RowKit
theorem joinR_lib (b:ByteArray):∀l:List ByteArray,(joinR b l).data.toList=Lib.joinTail b.data.toList (l.map (·.data.toList))
 | []=>by simp[joinR,Lib.joinTail]
 | x :: r=>by
  have:=joinR_lib b r
  simp only[joinR,ByteArray.data_append,Array.toList_append,this,Lib.joinTail,List.map_cons,List.flatten_cons,List.append_assoc]
theorem joinC_lib (b:ByteArray):∀l:List ByteArray,(joinC b l).data.toList=Lib.join (l.map (·.data.toList)) b.data.toList
 | []=>by simp[joinC,Lib.join_nil]
 | x :: r=>by
  rw[List.map_cons,Lib.join_cons,joinC,ByteArray.data_append,Array.toList_append,joinR_lib]
theorem joinC_arr (b:ByteArray) (l:List ByteArray):(⟨(Lib.join (l.map (·.data.toList)) b.data.toList).toArray⟩:ByteArray)=joinC b l:=by
 rw[←joinC_lib]
theorem joined_any (xs:List ByteArray) (sep:ByteArray) (b o c:Nat) (w:World) (hb:b<w.heap.size) (hc:∀i (h:i<xs.length),w.cell? ⟨b,o+i,none⟩=some (.string xs[i]))
  (hl:xs.length≤c) (hcm:xs.length≤1000000000) (hsz:sep.size*xs.length+sumS xs≤4000000000) :
  Calls Tryz.prog 104 #[.slice (some ⟨b,o,none⟩) xs.length c,.string sep] w fun e w'=>e=.returned (.string (joinC sep xs))∧Bel w w':=by
 have hj:(Lib.join (xs.map (·.data.toList)) sep.data.toList).length≤140737488355328:=by
  rw[←joinC_lib,Array.length_toList]
  have h1:=joinC_size sep xs
  have h2:(joinC sep xs).data.size=(joinC sep xs).size:=rfl
  omega
 have hx:xs.length≤140737488355328:=by omega
 have HJ:=hide (Tryz.strings_Join b o c xs sep w (fun j x h=>by
  obtain⟨hlt,rfl⟩:=List.getElem?_eq_some_iff.1 h
  exact hc j hlt) hb hx hl hj)
 have HE:=hide (joinC_arr sep xs)
 clear hc hj
 go_enter Tryz.func104,Tryz.ntmps104
 go_wp2_with (go_at_call 135;refine HJ.out.mono ?_;rintro e w8 ⟨rfl,hb8⟩;rw[HE.out])
 all_goals
  go_returns
  exact⟨rfl,hb8⟩
end Go.Proofs.YtehcjlkgfgpjnaaGreatDoor
