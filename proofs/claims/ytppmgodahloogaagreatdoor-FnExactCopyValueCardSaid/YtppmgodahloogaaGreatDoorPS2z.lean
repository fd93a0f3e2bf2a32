/- The reference: is a value in a store? -/
import Derived.Test.YtppmgodahloogaaGreatDoorPr
import Derived.Test.YtppmgodahloogaaGreatDoorPS2a
import Derived.Test.YtppmgodahloogaaGreatDoorPS2b
import Derived.Test.YtppmgodahloogaaGreatDoorPS2c
import Derived.Laws.StructEq
namespace Go.Proofs.YtppmgodahloogaaGreatDoor
set_option linter.unusedVariables false
set_option linter.unusedSimpArgs false
set_option maxRecDepth 100000
open Go.RowKit
--%quiet
theorem specIn_any (s:TStore) (v:VVal):InC 52 s v:=by
 obtain⟨k,n,i,t,lo,hi⟩:=v
 rcases well_cases k with rfl | rfl | rfl | rfl | rfl | rfl | rfl | rfl | rfl | rfl | rfl | rfl | rfl | rfl | rfl | rfl | rfl | rfl | rfl | rfl | rfl | h | h
 ·
  exact specIn_0 n i t lo hi s
 ·
  exact specIn_1 n i t lo hi s
 ·
  exact specIn_2 n i t lo hi s
 ·
  exact specIn_3 n i t lo hi s
 ·
  exact specIn_4 n i t lo hi s
 ·
  exact specIn_5 n i t lo hi s
 ·
  exact specIn_6 n i t lo hi s
 ·
  exact specIn_7 n i t lo hi s
 ·
  exact specIn_8 n i t lo hi s
 ·
  exact specIn_9 n i t lo hi s
 ·
  exact specIn_10 n i t lo hi s
 ·
  exact specIn_11 n i t lo hi s
 ·
  exact specIn_12 n i t lo hi s
 ·
  exact specIn_13 n i t lo hi s
 ·
  exact specIn_14 n i t lo hi s
 ·
  exact specIn_15 n i t lo hi s
 ·
  exact specIn_16 n i t lo hi s
 ·
  exact specIn_17 n i t lo hi s
 ·
  exact specIn_18 n i t lo hi s
 ·
  exact specIn_19 n i t lo hi s
 ·
  exact specIn_20 n i t lo hi s
 ·
  exact specIn_out k (Or.inl h) n i t lo hi s
 ·
  exact specIn_out k (Or.inr h) n i t lo hi s
set_option maxHeartbeats 1000000 in
theorem specData_any (s:TStore) (v:VVal):DataC 20 s v:=by
 intro S q w hs hv
 have HS:=hide hs
 have hq:=hs.1
 clear hs
 have HV:=hide hv
 have hts:=hv.t
 unfold maxLen at hts
 clear hv
 obtain⟨k,n,i,t,lo,hi⟩:=v
 simp only at hts ⊢
 have hqn:¬q=w.heap.size:=by omega
 by_cases hk:k≤12
 ·
  have RR:=hide (show dataB s ⟨k,n,i,t,lo,hi⟩=inB s ⟨k,n,i,t,lo,hi⟩ by unfold dataB;rw[decide_eq_true hk];rfl)
  go_enter Tryz.func20,Tryz.ntmps20
  have mkq:=True.intro
  repeat (any_goals ((first | clear mkq | go_quiet (fail));(try go_wp2_with (go_at_call 52;refine (specIn_any s ⟨k,n,i,t,lo,hi⟩ S q _ (StoreAt.bel bl HS.out) HV.out).mono ?_;rintro e w1 ⟨rfl,hb1⟩))))
  all_goals
   go_returns
   exact⟨by rw[RR.out];first | done | rfl,bl⟩
 ·
  have RR:=hide (show dataB s ⟨k,n,i,t,lo,hi⟩=false by unfold dataB;rw[decide_eq_false hk];rfl)
  go_enter Tryz.func20,Tryz.ntmps20
  exact rk165
end Go.Proofs.YtppmgodahloogaaGreatDoor
namespace Go.Proofs.YtppmgodahloogaaGreatDoor
set_option linter.unusedVariables false
set_option linter.unusedSimpArgs false
set_option maxRecDepth 100000
open Go.RowKit
--%quiet
theorem all_at {s:TStore} {l:List TValue} (k:Nat) (hk:k<l.length) (h:dataB s l[k].v=false):allB s l=false:=by
 unfold allB
 exact List.all_eq_false.2 ⟨l[k],List.getElem_mem hk,by rw[h];simp⟩
theorem all_of {s:TStore} {l:List TValue} (h:∀k (hk:k<l.length),dataB s l[k].v=true):allB s l=true:=by
 unfold allB
 refine List.all_eq_true.2 fun x hx=>?_
 obtain⟨k,hk,rfl⟩:=List.mem_iff_getElem.1 hx
 exact h k hk
theorem getD_val (l:List TValue) (k:Nat) (h:k<l.length) (d:TValue):l.getD k d=l[k]:=by simp[List.getD,h]
theorem dist_at {l:List TValue} (i k:Nat) (hi:i<l.length) (hk:k<i) (h:(l[k]'(by omega)).v.eqB l[i].v=true):distB l=false:=by
 unfold distB
 refine List.all_eq_false.2 ⟨i,List.mem_range.2 hi,?_⟩
 rw[getD_val l i hi]
 have:((l.take i).any fun y=>y.v.eqB l[i].v)=true:=List.any_eq_true.2 ⟨l[k]'(by omega),List.mem_iff_getElem.2 ⟨k,by simp;omega,by simp⟩,h⟩
 rw[this]
 simp
theorem dist_of {l:List TValue} (h:∀i (hi:i<l.length) k (hk:k<i),(l[k]'(by omega)).v.eqB l[i].v=false):distB l=true:=by
 unfold distB
 refine List.all_eq_true.2 fun i hi=>?_
 have hi':=List.mem_range.1 hi
 rw[getD_val l i hi']
 have:((l.take i).any fun y=>y.v.eqB l[i].v)=false:=List.any_eq_false.2 fun y hy=>by
  obtain⟨k,hk,rfl⟩:=List.mem_iff_getElem.1 hy
  rw[List.getElem_take]
  rw[h i hi' k (by simp at hk;omega)]
  simp
 rw[this]
 rfl
theorem VVal.eqB_symm (a b:VVal):a.eqB b=b.eqB a:=by
 unfold VVal.eqB
 simp only[eq_comm]
theorem run_eqV (k n i:Int) (t:ByteArray) (lo hi k' n' i':Int) (t':ByteArray) (lo' hi':Int) (w:World) :
  (binOp .eql 43 (.agg #[.int .i64 k,.int .i64 n,.int .i64 i,.string t,.int .i64 lo,.int .i64 hi]) (.agg #[.int .i64 k',.int .i64 n',.int .i64 i',.string t',.int .i64 lo',.int .i64 hi'])).run Tryz.prog w=.ok (.bool (VVal.eqB ⟨k,n,i,t,lo,hi⟩ ⟨k',n',i',t',lo',hi'⟩)) w:=by
 have hS:Tryz.prog.underlying 43=some (.struct (Tryz.prog.fieldsOf 43)):=by kernel_rfl
 have hp:Tryz.prog.stoodInHeld 43=false:=by kernel_rfl
 unfold VVal.eqB
 rw[run_eql_struct,show (10000:Nat)=9999+1 from rfl,run_equalIn_agg w 9999 43 _ _ hS hp]
 simp only[Program.fieldsOf,Tryz.underlying43]
 go_simp
 by_cases h1:k=k' <;> by_cases h2:n=n' <;> by_cases h3:i=i' <;> by_cases h4:t=t' <;> by_cases h5:lo=lo' <;> by_cases h6:hi=hi' <;> simp_all [ba_eq]
abbrev specAllC (s:TStore) (l:List TValue):Prop:=∀(S S':Nat→Prop) (q:Nat) (w:World) (A:Option Addr) (c:Nat),StoreAt w S q s→Row w S' 6 A c (l.map TValue.D) →
 Calls Tryz.prog 76 #[.pointer (some ⟨q,0,none⟩),.slice A l.length c] w fun e w'=>e=.returned (.bool (allB s l))∧Bel w w'
set_option maxHeartbeats 1000000 in
theorem specAll_any (s:TStore) (l:List TValue):specAllC s l:=by
 intro S S' q w A c hs hR
 have HS:=hide hs
 have hq:=hs.1
 have hqn:¬q=w.heap.size:=by omega
 have HR:=hide hR
 have hlen:=hR.1
 have hcm:=hR.2.1
 simp only[List.length_map]at hlen
 unfold maxLen at hcm
 clear hR hs
 go_enter Tryz.func76,Tryz.ntmps76
 go_wp2_with (fail)
 repeat (any_goals (go_quiet (fail);(try go_wp2_with (fail))))
 go_loopw [5] (fun v wr=>∃m:Nat,v=.int .i64 m∧m≤l.length∧Hid (∀j (hj:j<l.length),j<m→dataB s l[j].v=true)∧Bel w wr) (fun v _=>l.length - (intOf v).toNat)
 case atStart=>exact⟨0,rfl,by omega,fun j _ hj=>by omega,Bel.refl _⟩
 case round =>
  obtain⟨m,rfl,m1,hm,hbw⟩:=hrel
  have hbz:=hbw.size
  by_cases h1:m<l.length
  ·
   have hd:decide ((m:Int)<(l.length:Int))=true:=by simp[h1]
   (obtain⟨b1,o1,x1_0,x1_1,x1_2,x1_3,x1_4,x1_5,hA1,hS1,hl1,hx1,hv1,g1_0,g1_1,g1_2,g1_3,g1_4,g1_5,c1_0,c1_1,c1_2,c1_3,c1_4,c1_5⟩:=TValue.at HR.out m h1;subst hA1;have HV1:=hide (Dat.HoldVals.bel hbw hv1);have hh1:=hbw.box b1 hl1;have hw1:=Nat.lt_of_lt_of_le hl1 (Bel.size hbw);replace c1_0:=(hh1 _).trans c1_0;replace c1_1:=(hh1 _).trans c1_1;replace c1_2:=(hh1 _).trans c1_2;replace c1_3:=(hh1 _).trans c1_3;replace c1_4:=(hh1 _).trans c1_4;replace c1_5:=(hh1 _).trans c1_5;have HX1:=hide hx1;clear hh1 hv1 hx1 hS1)
   have hne1:¬b1=wr.heap.size:=by omega
   have HD:=hide (show dataB s l[m].v=dataB s ⟨x1_0,x1_1,x1_2,x1_3,x1_4,x1_5⟩ by rw[HX1.out];rfl)
   cases hn:dataB s ⟨x1_0,x1_1,x1_2,x1_3,x1_4,x1_5⟩
   ·
    have HN:=hide hn
    have HA:=hide (all_at m h1 (HD.out.trans hn))
    clear hn
    have mkq:=True.intro
    repeat (any_goals ((first | clear mkq | go_quiet (fail));(try go_wp2_with ((go_at_call 20;refine (specData_any s ⟨x1_0,x1_1,x1_2,x1_3,x1_4,x1_5⟩ S q _ (StoreAt.bel bl HS.out) ⟨g1_0,g1_1,g1_2,g1_3,g1_4,g1_5⟩).mono ?_;rintro e w1 ⟨rfl,hb1⟩);rw[HN.out]))))
    all_goals
     go_returns
     exact⟨by rw[HA.out];first | done | rfl,bl⟩
   ·
    have HN:=hide hn
    clear hn
    have mkq:=True.intro
    repeat (any_goals ((first | clear mkq | go_quiet (fail));(try go_wp2_with ((go_at_call 20;refine (specData_any s ⟨x1_0,x1_1,x1_2,x1_3,x1_4,x1_5⟩ S q _ (StoreAt.bel bl HS.out) ⟨g1_0,g1_1,g1_2,g1_3,g1_4,g1_5⟩).mono ?_;rintro e w1 ⟨rfl,hb1⟩);rw[HN.out]))))
    exact rk202
  ·
   exact rk193
set_option maxHeartbeats 1000000 in
theorem specDist_any (l:List TValue) (S:Nat→Prop) (w:World) (A:Option Addr) (c:Nat) (hR:Row w S 6 A c (l.map TValue.D)) :
  Calls Tryz.prog 89 #[.slice A l.length c] w fun e w'=>e=.returned (.bool (distB l))∧Bel w w':=by
 have HR:=hide hR
 have hlen:=hR.1
 have hcm:=hR.2.1
 simp only[List.length_map]at hlen
 unfold maxLen at hcm
 clear hR
 have HE:=@run_eqV
 go_enter Tryz.func89,Tryz.ntmps89
 go_wp2_with (fail)
 repeat (any_goals (go_quiet (fail);(try go_wp2_with (fail))))
 go_loopw [3] (fun v wr=>∃m:Nat,v=.int .i64 m∧m≤l.length∧Hid (∀i (hi:i<l.length) k (hk:k<i),i<m→(l[k]'(by omega)).v.eqB l[i].v=false)∧Bel w wr) (fun v _=>l.length - (intOf v).toNat)
 case atStart=>exact⟨0,rfl,by omega,fun j _ _ _ hj=>by omega,Bel.refl _⟩
 case round =>
  obtain⟨m,rfl,m1,hm,hbw⟩:=hrel
  by_cases h1:m<l.length
  ·
   have hd:decide ((m:Int)<(l.length:Int))=true:=by simp[h1]
   go_wp2_with (fail)
   repeat (any_goals (go_quiet (fail);(try go_wp2_with (fail))))
   have HB:=hide hbw
   go_loopw [4] (fun v wr2=>∃k:Nat,v=.int .i64 k∧k≤m∧Hid (∀j (hj:j<k) (hjm:j<l.length),l[j].v.eqB l[m].v=false)∧Bel w wr2) (fun v _=>m - (intOf v).toNat)
   case atStart=>exact⟨0,rfl,by omega,fun j hj _=>by omega,bl⟩
   case round =>
    obtain⟨k,rfl,k1,hk,hbw2⟩:=hrel
    by_cases h2:k<m
    ·
     have hd2:decide ((k:Int)<(m:Int))=true:=by simp[h2]
     have h2':k<l.length:=by omega
     (obtain⟨b1,o1,x1_0,x1_1,x1_2,x1_3,x1_4,x1_5,hA1,hS1,hl1,hx1,hv1,g1_0,g1_1,g1_2,g1_3,g1_4,g1_5,c1_0,c1_1,c1_2,c1_3,c1_4,c1_5⟩:=TValue.at HR.out m h1;subst hA1;have HV1:=hide (Dat.HoldVals.bel hbw2 hv1);have hh1:=hbw2.box b1 hl1;have hw1:=Nat.lt_of_lt_of_le hl1 (Bel.size hbw2);replace c1_0:=(hh1 _).trans c1_0;replace c1_1:=(hh1 _).trans c1_1;replace c1_2:=(hh1 _).trans c1_2;replace c1_3:=(hh1 _).trans c1_3;replace c1_4:=(hh1 _).trans c1_4;replace c1_5:=(hh1 _).trans c1_5;have HX1:=hide hx1;clear hh1 hv1 hx1 hS1)
     (obtain⟨b2,o2,x2_0,x2_1,x2_2,x2_3,x2_4,x2_5,hA2,hS2,hl2,hx2,hv2,g2_0,g2_1,g2_2,g2_3,g2_4,g2_5,c2_0,c2_1,c2_2,c2_3,c2_4,c2_5⟩:=TValue.at HR.out k h2';injection Option.some.inj hA2 with qb2 qo2 _;subst qb2 qo2;have HV2:=hide (Dat.HoldVals.bel hbw2 hv2);have hh2:=hbw2.box b1 hl2;have hw2:=Nat.lt_of_lt_of_le hl2 (Bel.size hbw2);replace c2_0:=(hh2 _).trans c2_0;replace c2_1:=(hh2 _).trans c2_1;replace c2_2:=(hh2 _).trans c2_2;replace c2_3:=(hh2 _).trans c2_3;replace c2_4:=(hh2 _).trans c2_4;replace c2_5:=(hh2 _).trans c2_5;have HX2:=hide hx2;clear hh2 hv2 hx2 hS2)
     have HQ:=hide (show l[k].v.eqB l[m].v=VVal.eqB ⟨x1_0,x1_1,x1_2,x1_3,x1_4,x1_5⟩ ⟨x2_0,x2_1,x2_2,x2_3,x2_4,x2_5⟩ by rw[VVal.eqB_symm,HX1.out,HX2.out];rfl)
     cases hn:VVal.eqB ⟨x1_0,x1_1,x1_2,x1_3,x1_4,x1_5⟩ ⟨x2_0,x2_1,x2_2,x2_3,x2_4,x2_5⟩
     ·
      have HQ2:=hide (HQ.out.trans hn)
      have hrun:=fun w=>(run_eqV x1_0 x1_1 x1_2 x1_3 x1_4 x1_5 x2_0 x2_1 x2_2 x2_3 x2_4 x2_5 w).trans (by rw[hn])
      clear HE hn
      go_wp2_with (fail)
      repeat (any_goals (go_quiet (fail);(try go_wp2_with (fail))))
      go_roundw
      case rel=>exact⟨k+1,by go_num,by omega,fun j hj hjm=>by
       by_cases e:j=k
       ·
        subst e;exact HQ2.out
       ·
        exact hk.out j (by omega) hjm,bl⟩
      case measure=>simp[intOf];omega
     ·
      have HA:=hide (dist_at m k h1 h2 (HQ.out.trans hn))
      have hrun:=fun w=>(run_eqV x1_0 x1_1 x1_2 x1_3 x1_4 x1_5 x2_0 x2_1 x2_2 x2_3 x2_4 x2_5 w).trans (by rw[hn])
      clear HE hn
      exact rk210
    ·
     have hd2:decide ((k:Int)<(m:Int))=false:=by simp[h2]
     go_wp2_with (fail)
     repeat (any_goals (go_quiet (fail);(try go_wp2_with (fail))))
     go_roundw
     case rel=>exact⟨m+1,by go_num,by omega,fun i hi j hj him=>by
      by_cases e:i=m
      ·
       subst e;exact hk.out j (by omega) (by omega)
      ·
       exact hm.out i hi j hj (by omega),bl⟩
     case measure=>simp[intOf];omega
  ·
   exact rk192
end Go.Proofs.YtppmgodahloogaaGreatDoor
