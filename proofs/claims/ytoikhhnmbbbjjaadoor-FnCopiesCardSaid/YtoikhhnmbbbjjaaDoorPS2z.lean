/- The reference: is a value in a store? -/
import Derived.Test.YtoikhhnmbbbjjaaDoorPr
import Derived.Test.YtoikhhnmbbbjjaaDoorPS2a
import Derived.Test.YtoikhhnmbbbjjaaDoorPS2b
import Derived.Test.YtoikhhnmbbbjjaaDoorPS2c
import Derived.Laws.StructEq
import Derived.Test.YtoikhhnmbbbjjaaDoorPShelf
import Derived.Deep.RegionHeld3
import Derived.Deep.RegionWith
namespace Go.Proofs.YtoikhhnmbbbjjaaDoor
set_option linter.unusedVariables false
set_option linter.unusedSimpArgs false
set_option maxRecDepth 100000
open Go.RowKit
--%quiet
theorem specIn_any (s:TStore) (v:VVal):InC 19 s v:=by
 obtain⟨k,n,i,t,lo,hi⟩:=v
 rcases well_cases k with rfl | rfl | rfl | rfl | rfl | rfl | rfl | rfl | rfl | rfl | rfl | rfl | rfl | rfl | rfl | rfl | rfl | rfl | rfl | rfl | rfl | h | h
 ·
  exact specIn_0 n i t lo hi s
 ·
  exact specIn_1 n i t lo hi s
 ·
  exact specIn_2 n i t lo hi s
 ·
  exact specIn_3 n i t lo hi s
 ·
  exact specIn_4 n i t lo hi s
 ·
  exact specIn_5 n i t lo hi s
 ·
  exact specIn_6 n i t lo hi s
 ·
  exact specIn_7 n i t lo hi s
 ·
  exact specIn_8 n i t lo hi s
 ·
  exact specIn_9 n i t lo hi s
 ·
  exact specIn_10 n i t lo hi s
 ·
  exact specIn_11 n i t lo hi s
 ·
  exact specIn_12 n i t lo hi s
 ·
  exact specIn_13 n i t lo hi s
 ·
  exact specIn_14 n i t lo hi s
 ·
  exact specIn_15 n i t lo hi s
 ·
  exact specIn_16 n i t lo hi s
 ·
  exact specIn_17 n i t lo hi s
 ·
  exact specIn_18 n i t lo hi s
 ·
  exact specIn_19 n i t lo hi s
 ·
  exact specIn_20 n i t lo hi s
 ·
  exact specIn_out k (Or.inl h) n i t lo hi s
 ·
  exact specIn_out k (Or.inr h) n i t lo hi s
set_option maxHeartbeats 1000000 in
theorem specData_any (s:TStore) (v:VVal):DataC 15 s v:=by
 intro S q w hs hv
 have HS:=hide hs
 have hq:=hs.1
 clear hs
 have HV:=hide hv
 have hts:=hv.t
 unfold maxLen at hts
 clear hv
 obtain⟨k,n,i,t,lo,hi⟩:=v
 simp only at hts ⊢
 have hqn:¬q=w.heap.size:=by omega
 by_cases hk:k≤12
 ·
  have RR:=hide (show dataB s ⟨k,n,i,t,lo,hi⟩=inB s ⟨k,n,i,t,lo,hi⟩ by unfold dataB;rw[decide_eq_true hk];rfl)
  go_enter Tryd.func15,Tryd.ntmps15
  have mkq:=True.intro
  repeat (any_goals ((first | clear mkq | go_quiet (fail));(try go_wp2_with (go_at_call 19;refine (specIn_any s ⟨k,n,i,t,lo,hi⟩ S q _ (StoreAt.bel bl HS.out) HV.out).mono ?_;rintro e w1 ⟨rfl,hb1⟩))))
  all_goals
   go_returns
   exact⟨by rw[RR.out];first | done | rfl,bl⟩
 ·
  have RR:=hide (show dataB s ⟨k,n,i,t,lo,hi⟩=false by unfold dataB;rw[decide_eq_false hk];rfl)
  go_enter Tryd.func15,Tryd.ntmps15
  exact rk163
end Go.Proofs.YtoikhhnmbbbjjaaDoor
namespace Go.Proofs.YtoikhhnmbbbjjaaDoor
set_option linter.unusedVariables false
set_option linter.unusedSimpArgs false
set_option maxRecDepth 100000
open Go.RowKit
--%quiet
theorem all_at {s:TStore} {l:List TValue} (k:Nat) (hk:k<l.length) (h:dataB s l[k].v=false):allB s l=false:=by
 unfold allB
 exact List.all_eq_false.2 ⟨l[k],List.getElem_mem hk,by rw[h];simp⟩
theorem all_of {s:TStore} {l:List TValue} (h:∀k (hk:k<l.length),dataB s l[k].v=true):allB s l=true:=by
 unfold allB
 refine List.all_eq_true.2 fun x hx=>?_
 obtain⟨k,hk,rfl⟩:=List.mem_iff_getElem.1 hx
 exact h k hk
theorem getD_val (l:List TValue) (k:Nat) (h:k<l.length) (d:TValue):l.getD k d=l[k]:=by simp[List.getD,h]
theorem dist_at {l:List TValue} (i k:Nat) (hi:i<l.length) (hk:k<i) (h:(l[k]'(by omega)).v.eqB l[i].v=true):distB l=false:=by
 unfold distB
 refine List.all_eq_false.2 ⟨i,List.mem_range.2 hi,?_⟩
 rw[getD_val l i hi]
 have:((l.take i).any fun y=>y.v.eqB l[i].v)=true:=List.any_eq_true.2 ⟨l[k]'(by omega),List.mem_iff_getElem.2 ⟨k,by simp;omega,by simp⟩,h⟩
 rw[this]
 simp
theorem dist_of {l:List TValue} (h:∀i (hi:i<l.length) k (hk:k<i),(l[k]'(by omega)).v.eqB l[i].v=false):distB l=true:=by
 unfold distB
 refine List.all_eq_true.2 fun i hi=>?_
 have hi':=List.mem_range.1 hi
 rw[getD_val l i hi']
 have:((l.take i).any fun y=>y.v.eqB l[i].v)=false:=List.any_eq_false.2 fun y hy=>by
  obtain⟨k,hk,rfl⟩:=List.mem_iff_getElem.1 hy
  rw[List.getElem_take]
  rw[h i hi' k (by simp at hk;omega)]
  simp
 rw[this]
 rfl
theorem VVal.eqB_symm (a b:VVal):a.eqB b=b.eqB a:=by
 unfold VVal.eqB
 simp only[eq_comm]
theorem run_eqV (k n i:Int) (t:ByteArray) (lo hi k' n' i':Int) (t':ByteArray) (lo' hi':Int) (w:World) :
  (binOp .eql 34 (.agg #[.int .i64 k,.int .i64 n,.int .i64 i,.string t,.int .i64 lo,.int .i64 hi]) (.agg #[.int .i64 k',.int .i64 n',.int .i64 i',.string t',.int .i64 lo',.int .i64 hi'])).run Tryd.prog w=.ok (.bool (VVal.eqB ⟨k,n,i,t,lo,hi⟩ ⟨k',n',i',t',lo',hi'⟩)) w:=by
 have hS:Tryd.prog.underlying 34=some (.struct (Tryd.prog.fieldsOf 34)):=by kernel_rfl
 have hp:Tryd.prog.stoodInHeld 34=false:=by kernel_rfl
 unfold VVal.eqB
 rw[run_eql_struct,show (10000:Nat)=9999+1 from rfl,run_equalIn_agg w 9999 34 _ _ hS hp]
 simp only[Program.fieldsOf,Tryd.underlying34]
 go_simp
 by_cases h1:k=k' <;> by_cases h2:n=n' <;> by_cases h3:i=i' <;> by_cases h4:t=t' <;> by_cases h5:lo=lo' <;> by_cases h6:hi=hi' <;> simp_all [ba_eq]
abbrev specAllC (s:TStore) (l:List TValue):Prop:=∀(S S':Nat→Prop) (q:Nat) (w:World) (A:Option Addr) (c:Nat),StoreAt w S q s→Row w S' 6 A c (l.map TValue.D) →
 Calls Tryd.prog 41 #[.pointer (some ⟨q,0,none⟩),.slice A l.length c] w fun e w'=>e=.returned (.bool (allB s l))∧Bel w w'
set_option maxHeartbeats 1000000 in
theorem specAll_any (s:TStore) (l:List TValue):specAllC s l:=by
 intro S S' q w A c hs hR
 have HS:=hide hs
 have hq:=hs.1
 have hqn:¬q=w.heap.size:=by omega
 have HR:=hide hR
 have hlen:=hR.1
 have hcm:=hR.2.1
 simp only[List.length_map]at hlen
 unfold maxLen at hcm
 clear hR hs
 go_enter Tryd.func41,Tryd.ntmps41
 go_wp2_with (fail)
 repeat (any_goals (go_quiet (fail);(try go_wp2_with (fail))))
 go_loopw [5] (fun v wr=>∃m:Nat,v=.int .i64 m∧m≤l.length∧Hid (∀j (hj:j<l.length),j<m→dataB s l[j].v=true)∧Bel w wr) (fun v _=>l.length - (intOf v).toNat)
 case atStart=>exact⟨0,rfl,by omega,fun j _ hj=>by omega,Bel.refl _⟩
 case round =>
  obtain⟨m,rfl,m1,hm,hbw⟩:=hrel
  have hbz:=hbw.size
  by_cases h1:m<l.length
  ·
   have hd:decide ((m:Int)<(l.length:Int))=true:=by simp[h1]
   (obtain⟨b1,o1,x1_0,x1_1,x1_2,x1_3,x1_4,x1_5,hA1,hS1,hl1,hx1,hv1,g1_0,g1_1,g1_2,g1_3,g1_4,g1_5,c1_0,c1_1,c1_2,c1_3,c1_4,c1_5⟩:=TValue.at HR.out m h1;subst hA1;have HV1:=hide (Dat.HoldVals.bel hbw hv1);have hh1:=hbw.box b1 hl1;have hw1:=Nat.lt_of_lt_of_le hl1 (Bel.size hbw);replace c1_0:=(hh1 _).trans c1_0;replace c1_1:=(hh1 _).trans c1_1;replace c1_2:=(hh1 _).trans c1_2;replace c1_3:=(hh1 _).trans c1_3;replace c1_4:=(hh1 _).trans c1_4;replace c1_5:=(hh1 _).trans c1_5;have HX1:=hide hx1;clear hh1 hv1 hx1 hS1)
   have hne1:¬b1=wr.heap.size:=by omega
   have HD:=hide (show dataB s l[m].v=dataB s ⟨x1_0,x1_1,x1_2,x1_3,x1_4,x1_5⟩ by rw[HX1.out];rfl)
   cases hn:dataB s ⟨x1_0,x1_1,x1_2,x1_3,x1_4,x1_5⟩
   ·
    have HN:=hide hn
    have HA:=hide (all_at m h1 (HD.out.trans hn))
    clear hn
    have mkq:=True.intro
    repeat (any_goals ((first | clear mkq | go_quiet (fail));(try go_wp2_with ((go_at_call 15;refine (specData_any s ⟨x1_0,x1_1,x1_2,x1_3,x1_4,x1_5⟩ S q _ (StoreAt.bel bl HS.out) ⟨g1_0,g1_1,g1_2,g1_3,g1_4,g1_5⟩).mono ?_;rintro e w1 ⟨rfl,hb1⟩);rw[HN.out]))))
    all_goals
     go_returns
     exact⟨by rw[HA.out];first | done | rfl,bl⟩
   ·
    have HN:=hide hn
    clear hn
    have mkq:=True.intro
    repeat (any_goals ((first | clear mkq | go_quiet (fail));(try go_wp2_with ((go_at_call 15;refine (specData_any s ⟨x1_0,x1_1,x1_2,x1_3,x1_4,x1_5⟩ S q _ (StoreAt.bel bl HS.out) ⟨g1_0,g1_1,g1_2,g1_3,g1_4,g1_5⟩).mono ?_;rintro e w1 ⟨rfl,hb1⟩);rw[HN.out]))))
    exact rk197
  ·
   exact rk185
set_option maxHeartbeats 1000000 in
theorem specDist_any (l:List TValue) (S:Nat→Prop) (w:World) (A:Option Addr) (c:Nat) (hR:Row w S 6 A c (l.map TValue.D)) :
  Calls Tryd.prog 65 #[.slice A l.length c] w fun e w'=>e=.returned (.bool (distB l))∧Bel w w':=by
 have HR:=hide hR
 have hlen:=hR.1
 have hcm:=hR.2.1
 simp only[List.length_map]at hlen
 unfold maxLen at hcm
 clear hR
 have HE:=@run_eqV
 go_enter Tryd.func65,Tryd.ntmps65
 go_wp2_with (fail)
 repeat (any_goals (go_quiet (fail);(try go_wp2_with (fail))))
 go_loopw [3] (fun v wr=>∃m:Nat,v=.int .i64 m∧m≤l.length∧Hid (∀i (hi:i<l.length) k (hk:k<i),i<m→(l[k]'(by omega)).v.eqB l[i].v=false)∧Bel w wr) (fun v _=>l.length - (intOf v).toNat)
 case atStart=>exact⟨0,rfl,by omega,fun j _ _ _ hj=>by omega,Bel.refl _⟩
 case round =>
  obtain⟨m,rfl,m1,hm,hbw⟩:=hrel
  by_cases h1:m<l.length
  ·
   have hd:decide ((m:Int)<(l.length:Int))=true:=by simp[h1]
   go_wp2_with (fail)
   repeat (any_goals (go_quiet (fail);(try go_wp2_with (fail))))
   have HB:=hide hbw
   go_loopw [4] (fun v wr2=>∃k:Nat,v=.int .i64 k∧k≤m∧Hid (∀j (hj:j<k) (hjm:j<l.length),l[j].v.eqB l[m].v=false)∧Bel w wr2) (fun v _=>m - (intOf v).toNat)
   case atStart=>exact⟨0,rfl,by omega,fun j hj _=>by omega,bl⟩
   case round =>
    obtain⟨k,rfl,k1,hk,hbw2⟩:=hrel
    by_cases h2:k<m
    ·
     have hd2:decide ((k:Int)<(m:Int))=true:=by simp[h2]
     have h2':k<l.length:=by omega
     (obtain⟨b1,o1,x1_0,x1_1,x1_2,x1_3,x1_4,x1_5,hA1,hS1,hl1,hx1,hv1,g1_0,g1_1,g1_2,g1_3,g1_4,g1_5,c1_0,c1_1,c1_2,c1_3,c1_4,c1_5⟩:=TValue.at HR.out m h1;subst hA1;have HV1:=hide (Dat.HoldVals.bel hbw2 hv1);have hh1:=hbw2.box b1 hl1;have hw1:=Nat.lt_of_lt_of_le hl1 (Bel.size hbw2);replace c1_0:=(hh1 _).trans c1_0;replace c1_1:=(hh1 _).trans c1_1;replace c1_2:=(hh1 _).trans c1_2;replace c1_3:=(hh1 _).trans c1_3;replace c1_4:=(hh1 _).trans c1_4;replace c1_5:=(hh1 _).trans c1_5;have HX1:=hide hx1;clear hh1 hv1 hx1 hS1)
     (obtain⟨b2,o2,x2_0,x2_1,x2_2,x2_3,x2_4,x2_5,hA2,hS2,hl2,hx2,hv2,g2_0,g2_1,g2_2,g2_3,g2_4,g2_5,c2_0,c2_1,c2_2,c2_3,c2_4,c2_5⟩:=TValue.at HR.out k h2';injection Option.some.inj hA2 with qb2 qo2 _;subst qb2 qo2;have HV2:=hide (Dat.HoldVals.bel hbw2 hv2);have hh2:=hbw2.box b1 hl2;have hw2:=Nat.lt_of_lt_of_le hl2 (Bel.size hbw2);replace c2_0:=(hh2 _).trans c2_0;replace c2_1:=(hh2 _).trans c2_1;replace c2_2:=(hh2 _).trans c2_2;replace c2_3:=(hh2 _).trans c2_3;replace c2_4:=(hh2 _).trans c2_4;replace c2_5:=(hh2 _).trans c2_5;have HX2:=hide hx2;clear hh2 hv2 hx2 hS2)
     have HQ:=hide (show l[k].v.eqB l[m].v=VVal.eqB ⟨x1_0,x1_1,x1_2,x1_3,x1_4,x1_5⟩ ⟨x2_0,x2_1,x2_2,x2_3,x2_4,x2_5⟩ by rw[VVal.eqB_symm,HX1.out,HX2.out];rfl)
     cases hn:VVal.eqB ⟨x1_0,x1_1,x1_2,x1_3,x1_4,x1_5⟩ ⟨x2_0,x2_1,x2_2,x2_3,x2_4,x2_5⟩
     ·
      have HQ2:=hide (HQ.out.trans hn)
      have hrun:=fun w=>(run_eqV x1_0 x1_1 x1_2 x1_3 x1_4 x1_5 x2_0 x2_1 x2_2 x2_3 x2_4 x2_5 w).trans (by rw[hn])
      clear HE hn
      go_wp2_with (fail)
      repeat (any_goals (go_quiet (fail);(try go_wp2_with (fail))))
      go_roundw
      case rel=>exact⟨k+1,by go_num,by omega,fun j hj hjm=>by
       by_cases e:j=k
       ·
        subst e;exact HQ2.out
       ·
        exact hk.out j (by omega) hjm,bl⟩
      case measure=>simp[intOf];omega
     ·
      have HA:=hide (dist_at m k h1 h2 (HQ.out.trans hn))
      have hrun:=fun w=>(run_eqV x1_0 x1_1 x1_2 x1_3 x1_4 x1_5 x2_0 x2_1 x2_2 x2_3 x2_4 x2_5 w).trans (by rw[hn])
      clear HE hn
      exact rk206
    ·
     have hd2:decide ((k:Int)<(m:Int))=false:=by simp[h2]
     go_wp2_with (fail)
     repeat (any_goals (go_quiet (fail);(try go_wp2_with (fail))))
     go_roundw
     case rel=>exact⟨m+1,by go_num,by omega,fun i hi j hj him=>by
      by_cases e:i=m
      ·
       subst e;exact hk.out j (by omega) (by omega)
      ·
       exact hm.out i hi j hj (by omega),bl⟩
     case measure=>simp[intOf];omega
  ·
   exact rk184
end Go.Proofs.YtoikhhnmbbbjjaaDoor
namespace Go.Proofs.YtoikhhnmbbbjjaaDoor
set_option linter.unusedVariables false
set_option linter.unusedSimpArgs false
set_option maxRecDepth 100000
open Go.RowKit
--%quiet
theorem l1InS_any (a b c:Int) (w:World):Calls Tryd.prog 36 #[.int .i64 a,.int .i64 b,.int .i64 c] w fun e w'=>e=.returned (.bool (decide (b≤a)&&decide (a≤c)))∧w=w':=by
 by_cases h:b≤a
 ·
  have hd:decide (b≤a)=true:=by simp[h]
  go_enter Tryd.func36,Tryd.ntmps36
  go_wp2
  all_goals
   go_returns
   exact⟨by simp[h],rfl⟩
 ·
  have hd:decide (b≤a)=false:=by simp[h]
  go_enter Tryd.func36,Tryd.ntmps36
  go_wp2
  all_goals
   go_returns
   exact⟨by simp[h],rfl⟩
abbrev intsD (l:List Int):List (List Dat):=l.map fun x=>[Dat.int x]
theorem intAt {w:World} {S:Nat→Prop} {A:Option Addr} {c:Nat} {l:List Int} (h:Row w S 1 A c (intsD l)) (i:Nat) (hi:i<l.length) :
  ∃b o,A=some ⟨b,o,none⟩∧S b∧b<w.heap.size∧InI l[i]∧w.cell? ⟨b,o+i,none⟩=some (.int .i64 l[i]):=by
 obtain⟨b,o,vs,hA,hS,hb,hv,hl,hc⟩:=Row.at h i (by simpa using hi)
 rw[List.getElem_map]at hv
 match vs,hv with
 | [v],hv =>
  obtain⟨rfl,hs⟩:=Dat.holds_int.1 hv.1
  exact⟨b,o,hA,hS,hb,hs,by simpa using hc 0 (by decide)⟩
theorem row_ints_new (l:List Int) (w:World) (E:TypeId) (S:Nat→Prop) (hS:S w.heap.size) (hl:l.length≤maxLen) (hi:∀x∈l,InI x) :
  Row (w.alloc (.cells (l.map (Value.int .i64)).toArray E)) S 1 (some ⟨w.heap.size,0,none⟩) l.length (intsD l):=by
 refine⟨by simp,hl,fun _=>⟨w.heap.size,0,rfl,hS,by simp,Dat.HoldRows.mk fun i h=>?_⟩⟩
 simp only[List.length_map]at h
 rw[List.getElem_map]
 refine⟨Dat.HoldCells.of_vals (vs:=[.int .i64 l[i]]) ⟨Dat.holds_int.2 ⟨rfl,hi _ (List.getElem_mem h)⟩,trivial⟩ fun j hj=>?_,rfl⟩
 simp only[List.length_cons,List.length_nil]at hj
 obtain rfl:j=0:=by omega
 rw[World.cell?_alloc_mark]
 simp[h]
theorem patKinds_in (op:Int):∀x∈patKinds op,InI x:=by
 intro x hx
 have:(patKinds op).all (fun x=>decide (0≤x∧x≤13))=true:=by
  unfold patKinds;(repeat' split) <;> decide
 have:=List.all_eq_true.1 this x hx
 simp only[decide_eq_true_eq]at this
 unfold InI;omega
theorem patKinds_len (op:Int):(patKinds op).length≤2:=by unfold patKinds;(repeat' split) <;> decide
theorem all2_at {α β:Type} {f:α→β→Bool}:∀(K:List α) (l:List β) (k:Nat) (h1:k<K.length) (h2:k<l.length),f K[k] l[k]=false→all2 f K l=false
 | [],_,_,h1,_,_=>absurd h1 (by simp)
 | _ :: _,[],_,_,h2,_=>absurd h2 (by simp)
 | a :: r,b :: q,0,_,_,h=>by
  simp only[all2]
  rw[show f a b=false from h]
  rfl
 | a :: r,b :: q,k+1,h1,h2,h=>by
  simp only[all2]
  rw[all2_at r q k (by simpa using h1) (by simpa using h2) h]
  simp
theorem all2_of {α β:Type} {f:α→β→Bool}:∀(K:List α) (l:List β),(∀k (h1:k<K.length) (h2:k<l.length),f K[k] l[k]=true)→all2 f K l=true
 | [],_,_=>by simp[all2]
 | _ :: _,[],_=>by simp[all2]
 | a :: r,b :: q,h=>by
  simp only[all2]
  rw[show f a b=true from h 0 (by simp) (by simp),all2_of r q fun k h1 h2=>h (k+1) (by simpa using h1) (by simpa using h2)]
  rfl
theorem pat_at {s:TStore} {op:Int} {its:List TValue} (hl:(patKinds op).length=its.length) (k:Nat) (hk:k<its.length) (hk2:k<(patKinds op).length) (h:chkP s (patKinds op)[k] its[k].v=false):patB s op its=false:=by
 unfold patB
 rw[all2_at (f:=fun k (x:TValue)=>chkP s k x.v) _ _ k hk2 hk h]
 simp
theorem pat_of {s:TStore} {op:Int} {its:List TValue} (h1:1≤op) (h2:op≤23) (hl:(patKinds op).length=its.length) (h:∀k (hk:k<its.length) (hk2:k<(patKinds op).length),chkP s (patKinds op)[k] its[k].v=true):patB s op its=true:=by
 unfold patB
 rw[all2_of (f:=fun k (x:TValue)=>chkP s k x.v) _ _ fun k h1 h2=>h k h2 h1,decide_eq_true ⟨h1,h2⟩,decide_eq_true hl]
 rfl
set_option maxHeartbeats 1000000 in
theorem patItems_any (op:Int) (w:World):Calls Tryd.prog 54 #[.int .i64 op] w (MadeR w 1 (intsD (patKinds op))):=by
 by_cases h1:op=1
 ·
  subst h1
  have HK:=hide (show patKinds 1=[2] by decide)
  have HR:=hide (row_ints_new [2] w 3 (fun b=>w.heap.size≤b) (Nat.le_refl _) (by decide) (HK.out▸patKinds_in 1))
  go_enter Tryd.func54,Tryd.ntmps54
  exact rk80
 by_cases h2:op=2
 ·
  subst h2
  have HK:=hide (show patKinds 2=[1] by decide)
  have HR:=hide (row_ints_new [1] w 3 (fun b=>w.heap.size≤b) (Nat.le_refl _) (by decide) (HK.out▸patKinds_in 2))
  go_enter Tryd.func54,Tryd.ntmps54
  exact rk80
 by_cases h3:op=3
 ·
  subst h3
  have HK:=hide (show patKinds 3=[1] by decide)
  have HR:=hide (row_ints_new [1] w 3 (fun b=>w.heap.size≤b) (Nat.le_refl _) (by decide) (HK.out▸patKinds_in 3))
  go_enter Tryd.func54,Tryd.ntmps54
  exact rk80
 by_cases h4:op=4
 ·
  subst h4
  have HK:=hide (show patKinds 4=[1] by decide)
  have HR:=hide (row_ints_new [1] w 3 (fun b=>w.heap.size≤b) (Nat.le_refl _) (by decide) (HK.out▸patKinds_in 4))
  go_enter Tryd.func54,Tryd.ntmps54
  exact rk80
 by_cases h5:op=5
 ·
  subst h5
  have HK:=hide (show patKinds 5=[1] by decide)
  have HR:=hide (row_ints_new [1] w 3 (fun b=>w.heap.size≤b) (Nat.le_refl _) (by decide) (HK.out▸patKinds_in 5))
  go_enter Tryd.func54,Tryd.ntmps54
  exact rk80
 by_cases h6:op=6
 ·
  subst h6
  have HK:=hide (show patKinds 6=[1] by decide)
  have HR:=hide (row_ints_new [1] w 3 (fun b=>w.heap.size≤b) (Nat.le_refl _) (by decide) (HK.out▸patKinds_in 6))
  go_enter Tryd.func54,Tryd.ntmps54
  exact rk80
 by_cases h7:op=7
 ·
  subst h7
  have HK:=hide (show patKinds 7=[3] by decide)
  have HR:=hide (row_ints_new [3] w 3 (fun b=>w.heap.size≤b) (Nat.le_refl _) (by decide) (HK.out▸patKinds_in 7))
  go_enter Tryd.func54,Tryd.ntmps54
  exact rk80
 by_cases h8:op=8
 ·
  subst h8
  have HK:=hide (show patKinds 8=[3] by decide)
  have HR:=hide (row_ints_new [3] w 3 (fun b=>w.heap.size≤b) (Nat.le_refl _) (by decide) (HK.out▸patKinds_in 8))
  go_enter Tryd.func54,Tryd.ntmps54
  exact rk80
 by_cases h9:op=9
 ·
  subst h9
  have HK:=hide (show patKinds 9=[3] by decide)
  have HR:=hide (row_ints_new [3] w 3 (fun b=>w.heap.size≤b) (Nat.le_refl _) (by decide) (HK.out▸patKinds_in 9))
  go_enter Tryd.func54,Tryd.ntmps54
  exact rk80
 by_cases h10:op=10
 ·
  subst h10
  have HK:=hide (show patKinds 10=[3] by decide)
  have HR:=hide (row_ints_new [3] w 3 (fun b=>w.heap.size≤b) (Nat.le_refl _) (by decide) (HK.out▸patKinds_in 10))
  go_enter Tryd.func54,Tryd.ntmps54
  exact rk80
 by_cases h13:op=13
 ·
  subst h13
  have HK:=hide (show patKinds 13=[12] by decide)
  have HR:=hide (row_ints_new [12] w 3 (fun b=>w.heap.size≤b) (Nat.le_refl _) (by decide) (HK.out▸patKinds_in 13))
  go_enter Tryd.func54,Tryd.ntmps54
  exact rk80
 by_cases h14:op=14
 ·
  subst h14
  have HK:=hide (show patKinds 14=[12,12] by decide)
  have HR:=hide (row_ints_new [12,12] w 3 (fun b=>w.heap.size≤b) (Nat.le_refl _) (by decide) (HK.out▸patKinds_in 14))
  go_enter Tryd.func54,Tryd.ntmps54
  exact rk148
 by_cases h15:op=15
 ·
  subst h15
  have HK:=hide (show patKinds 15=[12,12] by decide)
  have HR:=hide (row_ints_new [12,12] w 3 (fun b=>w.heap.size≤b) (Nat.le_refl _) (by decide) (HK.out▸patKinds_in 15))
  go_enter Tryd.func54,Tryd.ntmps54
  exact rk148
 by_cases h16:op=16
 ·
  subst h16
  have HK:=hide (show patKinds 16=[12,13] by decide)
  have HR:=hide (row_ints_new [12,13] w 3 (fun b=>w.heap.size≤b) (Nat.le_refl _) (by decide) (HK.out▸patKinds_in 16))
  go_enter Tryd.func54,Tryd.ntmps54
  exact rk148
 by_cases h17:op=17
 ·
  subst h17
  have HK:=hide (show patKinds 17=[12,13] by decide)
  have HR:=hide (row_ints_new [12,13] w 3 (fun b=>w.heap.size≤b) (Nat.le_refl _) (by decide) (HK.out▸patKinds_in 17))
  go_enter Tryd.func54,Tryd.ntmps54
  exact rk148
 by_cases h18:op=18
 ·
  subst h18
  have HK:=hide (show patKinds 18=[13] by decide)
  have HR:=hide (row_ints_new [13] w 3 (fun b=>w.heap.size≤b) (Nat.le_refl _) (by decide) (HK.out▸patKinds_in 18))
  go_enter Tryd.func54,Tryd.ntmps54
  exact rk80
 by_cases h20:op=20
 ·
  subst h20
  have HK:=hide (show patKinds 20=[13] by decide)
  have HR:=hide (row_ints_new [13] w 3 (fun b=>w.heap.size≤b) (Nat.le_refl _) (by decide) (HK.out▸patKinds_in 20))
  go_enter Tryd.func54,Tryd.ntmps54
  exact rk80
 have HK:=hide (show patKinds op=[] by unfold patKinds;rw[if_neg (by omega),if_neg (by omega),if_neg (by omega),if_neg (by omega),if_neg (by omega),if_neg (by omega),if_neg (by omega)])
 go_enter Tryd.func54,Tryd.ntmps54
 go_wp2_with (fail)
 repeat (any_goals (go_quiet (fail);(try go_wp2_with (fail))))
 all_goals
  go_returns
  rw[HK.out]
  exact⟨none,0,rfl,⟨by simp,by decide,fun h=>absurd rfl h⟩,bl⟩
abbrev PatC (f:FuncId) (s:TStore):Prop:=∀(kd tag ser:Int) (its keys:List TValue) (S S':Nat→Prop) (q:Nat) (w:World) (Ai:Option Addr) (ci:Nat) (Ak:Option Addr) (ck:Nat),StoreAt w S q s→Row w S' 6 Ai ci (its.map TValue.D) →
 Calls Tryd.prog f #[.pointer (some ⟨q,0,none⟩),.agg #[.int .i64 kd,.int .i64 tag,.int .i64 ser,.slice Ai its.length ci,.slice Ak keys.length ck]] w fun e w'=>e=.returned (.bool (patB s tag its))∧Bel w w'
set_option maxHeartbeats 2000000 in
theorem specPat_any (s:TStore):PatC 66 s:=by
 intro kd tag ser its keys S S' q w Ai ci Ak ck hs hR
 have HS:=hide hs
 have hq:=hs.1
 have hqn:¬q=w.heap.size:=by omega
 have HR:=hide hR
 have hlen:=hR.1
 have hcm:=hR.2.1
 simp only[List.length_map]at hlen
 unfold maxLen at hcm
 have hkl:=patKinds_len tag
 clear hR hs
 by_cases hl:(patKinds tag).length=its.length
 case neg =>
  have f1:(((patKinds tag).length:Int) != (its.length:Int))=true:=by simp;omega
  have RR:=hide (show patB s tag its=false by unfold patB;rw[decide_eq_false hl];simp)
  exact rk40
 case pos =>
 have f1:(((patKinds tag).length:Int) != (its.length:Int))=false:=by simp;omega
 by_cases h1:tag<1
 ·
  exact rk211
 by_cases h2:23<tag
 ·
  exact rk211
 have HL:=hide hl
 clear hl
 go_enter Tryd.func66,Tryd.ntmps66
 have mkq:=True.intro
 repeat (any_goals ((first | clear mkq | go_quiet (fail));(try go_wp2_with (go_at_call 54;refine (patItems_any tag _).mono ?_;rintro e w1 ⟨AK,cK,rfl,hRK,hb1⟩;(try simp only[List.length_map]);have HRK:=hide hRK;clear hRK;(have hz1:=hb1.sz;obtain⟨hk1_0,hf1_0,hl1_0,hn1_0⟩:=hb1.lay (w.heap.size);obtain⟨hk1_1,hf1_1,hl1_1,hn1_1⟩:=hb1.lay (q))))))
 have HB1:=hide (show Bel w w1 from bl)
 have hcK:=HRK.out.1
 have hcmK:=HRK.out.2.1
 simp only[List.length_map]at hcK
 unfold maxLen at hcmK
 go_loopw [6] (fun v wr=>∃m:Nat,v=.int .i64 m∧m≤(patKinds tag).length∧Hid (∀j (hj:j<its.length) (hj2:j<(patKinds tag).length),j<m→chkP s (patKinds tag)[j] its[j].v=true)∧Bel w1 wr) (fun v _=>(patKinds tag).length - (intOf v).toNat)
 case atStart=>exact⟨0,rfl,by omega,fun j _ _ hj=>by omega,bl⟩
 case round =>
  obtain⟨m,rfl,m1,hm,hbw1⟩:=hrel
  have hbw:Bel w wr:=Bel.trans HB1.out hbw1
  have hbz:=hbw.size
  have hbz1:=hbw1.size
  have hko:=hbw1.box w.heap.size (by omega)
  by_cases h3:m<(patKinds tag).length
  ·
   have hd:decide ((m:Int)<((patKinds tag).length:Int))=true:=by simp[h3]
   have hd':decide (m<(patKinds tag).length)=true:=by simp[h3]
   have h3':m<its.length:=by rw[←HL.out];exact h3
   (obtain⟨b2,o2,x2_0,x2_1,x2_2,x2_3,x2_4,x2_5,hA2,hS2,hl2,hx2,hv2,g2_0,g2_1,g2_2,g2_3,g2_4,g2_5,c2_0,c2_1,c2_2,c2_3,c2_4,c2_5⟩:=TValue.at HR.out m h3';subst hA2;have HV2:=hide (Dat.HoldVals.bel hbw hv2);have hh2:=hbw.box b2 hl2;have hw2:=Nat.lt_of_lt_of_le hl2 (Bel.size hbw);replace c2_0:=(hh2 _).trans c2_0;replace c2_1:=(hh2 _).trans c2_1;replace c2_2:=(hh2 _).trans c2_2;replace c2_3:=(hh2 _).trans c2_3;replace c2_4:=(hh2 _).trans c2_4;replace c2_5:=(hh2 _).trans c2_5;have HX2:=hide hx2;clear hh2 hv2 hx2 hS2)
   obtain⟨b3,o3,hA3,hS3,hl3,hI3,c3⟩:=intAt HRK.out m h3
   subst hA3
   replace c3:=(hbw1.box b3 hl3 _).trans c3
   have hne2:¬b2=wr.heap.size:=by omega
   have hne3:¬b3=wr.heap.size:=by omega
   have hlb3:b3<wr.heap.size:=by omega
   have HC:=hide (show chkP s (patKinds tag)[m] its[m].v=chkP s (patKinds tag)[m] ⟨x2_0,x2_1,x2_2,x2_3,x2_4,x2_5⟩ by rw[HX2.out];rfl)
   obtain⟨kx,hkx⟩:∃kx,kx=(patKinds tag)[m]:=⟨_,rfl⟩
   rw[←hkx]at c3 HC
   have HKX:=hide hkx
   clear hkx
   cases hn:inB s ⟨x2_0,x2_1,x2_2,x2_3,x2_4,x2_5⟩
   ·
    have HN:=hide hn
    have HA:=hide (pat_at HL.out m h3' h3 (by rw[←HKX.out];refine HC.out.trans ?_;unfold chkP;rw[hn];rfl))
    clear hn
    exact rk114
   have HN:=hide hn
   cases hc:chkP s kx ⟨x2_0,x2_1,x2_2,x2_3,x2_4,x2_5⟩
   ·
    have HA:=hide (pat_at HL.out m h3' h3 (by rw[←HKX.out];exact HC.out.trans hc))
    have hcc:(if kx=13 then decide (x2_0=13∨x2_0=14) else decide (x2_0=kx))=false:=by
     unfold chkP at hc;rw[hn]at hc;simpa using hc
    clear hc hn
    by_cases hk13:kx=13
    ·
     subst hk13
     rw[if_pos rfl]at hcc
     have hcc2:=of_decide_eq_false hcc
     have f13:(x2_0 != 13)=true:=by simp;omega
     have f14:(x2_0 != 14)=true:=by simp;omega
     clear hcc hcc2
     exact rk114
    ·
     rw[if_neg hk13]at hcc
     have hcc2:=of_decide_eq_false hcc
     have f13:(kx==13)=false:=by simp[hk13]
     have f14:(x2_0 != kx)=true:=by simp[hcc2]
     clear hcc hcc2 hk13
     exact rk114
   ·
    have HCT:=hide (HC.out.trans hc)
    have hcc:(if kx=13 then decide (x2_0=13∨x2_0=14) else decide (x2_0=kx))=true:=by
     unfold chkP at hc;rw[hn]at hc;simpa using hc
    clear hc hn
    have HM:=hide (show ∀j (hj:j<its.length) (hj2:j<(patKinds tag).length),j<m+1→chkP s (patKinds tag)[j] its[j].v=true from fun j hj hj2 hjm=>by
     by_cases e:j=m
     ·
      subst e;rw[←HKX.out];exact HCT.out
     ·
      exact hm.out j hj hj2 (by omega))
    by_cases hk13:kx=13
    ·
     subst hk13
     rw[if_pos rfl]at hcc
     have hcc2:=of_decide_eq_true hcc
     clear hcc
     rcases hcc2 with rfl | rfl
     all_goals
      have mkq:=True.intro
      repeat (any_goals ((first | clear mkq | go_quiet (fail));(try go_wp2_with (go_at_call 19;refine (specIn_any s ⟨_,x2_1,x2_2,x2_3,x2_4,x2_5⟩ S q _ (StoreAt.bel bl HS.out) ⟨g2_0,g2_1,g2_2,g2_3,g2_4,g2_5⟩).mono ?_;rintro e w4 ⟨rfl,hb4⟩;rw[HN.out];(have hz4:=hb4.sz;obtain⟨hk4_0,hf4_0,hl4_0,hn4_0⟩:=hb4.lay (wr.heap.size);obtain⟨hk4_1,hf4_1,hl4_1,hn4_1⟩:=hb4.lay (b3))))))
      exact rk218
    ·
     rw[if_neg hk13]at hcc
     have hcc2:=of_decide_eq_true hcc
     subst hcc2
     have f13:(x2_0==13)=false:=by simp[hk13]
     clear hcc hk13
     have mkq:=True.intro
     repeat (any_goals ((first | clear mkq | go_quiet (fail));(try go_wp2_with (go_at_call 19;refine (specIn_any s ⟨x2_0,x2_1,x2_2,x2_3,x2_4,x2_5⟩ S q _ (StoreAt.bel bl HS.out) ⟨g2_0,g2_1,g2_2,g2_3,g2_4,g2_5⟩).mono ?_;rintro e w4 ⟨rfl,hb4⟩;rw[HN.out];(have hz4:=hb4.sz;obtain⟨hk4_0,hf4_0,hl4_0,hn4_0⟩:=hb4.lay (wr.heap.size);obtain⟨hk4_1,hf4_1,hl4_1,hn4_1⟩:=hb4.lay (b3))))))
     exact rk218
  ·
   have hd:decide ((m:Int)<((patKinds tag).length:Int))=false:=by simp[h3]
   have hd':decide (m<(patKinds tag).length)=false:=by simp[h3]
   have HA:=hide (pat_of (s:=s) (by omega) (by omega) HL.out fun k hk hk2=>hm.out k hk hk2 (by omega))
   go_wp2_with (fail)
   repeat (any_goals (go_quiet (fail);(try go_wp2_with (fail))))
   all_goals
    go_returns
    exact⟨by rw[HA.out];first | done | rfl,bl⟩
end Go.Proofs.YtoikhhnmbbbjjaaDoor
