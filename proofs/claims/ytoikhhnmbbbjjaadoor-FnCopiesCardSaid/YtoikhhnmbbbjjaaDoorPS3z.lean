/- The program: is a value in a store? -/
import Derived.Test.YtoikhhnmbbbjjaaDoorPr
import Derived.Test.YtoikhhnmbbbjjaaDoorPS3a
import Derived.Test.YtoikhhnmbbbjjaaDoorPS3b
import Derived.Test.YtoikhhnmbbbjjaaDoorPS2z
namespace Go.Proofs.YtoikhhnmbbbjjaaDoor
set_option linter.unusedVariables false
set_option linter.unusedSimpArgs false
set_option maxRecDepth 100000
open Go.RowKit
--%quiet
theorem implIn_any (s:TStore) (v:VVal):InC 30 s v:=by
 obtain⟨k,n,i,t,lo,hi⟩:=v
 rcases well_cases k with rfl | rfl | rfl | rfl | rfl | rfl | rfl | rfl | rfl | rfl | rfl | rfl | rfl | rfl | rfl | rfl | rfl | rfl | rfl | rfl | rfl | h | h
 ·
  exact implIn_0 n i t lo hi s
 ·
  exact implIn_1 n i t lo hi s
 ·
  exact implIn_2 n i t lo hi s
 ·
  exact implIn_3 n i t lo hi s
 ·
  exact implIn_4 n i t lo hi s
 ·
  exact implIn_5 n i t lo hi s
 ·
  exact implIn_6 n i t lo hi s
 ·
  exact implIn_7 n i t lo hi s
 ·
  exact implIn_8 n i t lo hi s
 ·
  exact implIn_9 n i t lo hi s
 ·
  exact implIn_10 n i t lo hi s
 ·
  exact implIn_11 n i t lo hi s
 ·
  exact implIn_12 n i t lo hi s
 ·
  exact implIn_13 n i t lo hi s
 ·
  exact implIn_14 n i t lo hi s
 ·
  exact implIn_15 n i t lo hi s
 ·
  exact implIn_16 n i t lo hi s
 ·
  exact implIn_17 n i t lo hi s
 ·
  exact implIn_18 n i t lo hi s
 ·
  exact implIn_19 n i t lo hi s
 ·
  exact implIn_20 n i t lo hi s
 ·
  exact implIn_out k (Or.inl h) n i t lo hi s
 ·
  exact implIn_out k (Or.inr h) n i t lo hi s
set_option maxHeartbeats 1000000 in
theorem implData_any (s:TStore) (v:VVal):DataC 12 s v:=by
 intro S q w hs hv
 have HS:=hide hs
 have hq:=hs.1
 clear hs
 have HV:=hide hv
 have hts:=hv.t
 unfold maxLen at hts
 clear hv
 obtain⟨k,n,i,t,lo,hi⟩:=v
 simp only at hts ⊢
 have hqn:¬q=w.heap.size:=by omega
 by_cases hk:k≤12
 ·
  have RR:=hide (show dataB s ⟨k,n,i,t,lo,hi⟩=inB s ⟨k,n,i,t,lo,hi⟩ by unfold dataB;rw[decide_eq_true hk];rfl)
  go_enter Tryd.func12,Tryd.ntmps12
  have mkq:=True.intro
  repeat (any_goals ((first | clear mkq | go_quiet (fail));(try go_wp2_with (go_at_call 30;refine (implIn_any s ⟨k,n,i,t,lo,hi⟩ S q _ (StoreAt.bel bl HS.out) HV.out).mono ?_;rintro e w1 ⟨rfl,hb1⟩))))
  all_goals
   go_returns
   exact⟨by rw[RR.out];first | done | rfl,bl⟩
 ·
  have RR:=hide (show dataB s ⟨k,n,i,t,lo,hi⟩=false by unfold dataB;rw[decide_eq_false hk];rfl)
  go_enter Tryd.func12,Tryd.ntmps12
  exact rk163
end Go.Proofs.YtoikhhnmbbbjjaaDoor
namespace Go.Proofs.YtoikhhnmbbbjjaaDoor
set_option linter.unusedVariables false
set_option linter.unusedSimpArgs false
set_option maxRecDepth 100000
open Go.RowKit
--%quiet
abbrev implAllC (s:TStore) (l:List TValue):Prop:=∀(S S':Nat→Prop) (q:Nat) (w:World) (A:Option Addr) (c:Nat),StoreAt w S q s→Row w S' 6 A c (l.map TValue.D) →
 Calls Tryd.prog 23 #[.pointer (some ⟨q,0,none⟩),.slice A l.length c] w fun e w'=>e=.returned (.bool (allB s l))∧Bel w w'
set_option maxHeartbeats 1000000 in
theorem implAll_any (s:TStore) (l:List TValue):implAllC s l:=by
 intro S S' q w A c hs hR
 have HS:=hide hs
 have hq:=hs.1
 have hqn:¬q=w.heap.size:=by omega
 have HR:=hide hR
 have hlen:=hR.1
 have hcm:=hR.2.1
 simp only[List.length_map]at hlen
 unfold maxLen at hcm
 clear hR hs
 go_enter Tryd.func23,Tryd.ntmps23
 go_wp2_with (fail)
 repeat (any_goals (go_quiet (fail);(try go_wp2_with (fail))))
 go_loopw [9] (fun v wr=>∃m:Nat,v=.int .i64 m∧m≤l.length∧Hid (∀j (hj:j<l.length),j<m→dataB s l[j].v=true)∧Bel w wr) (fun v _=>l.length - (intOf v).toNat)
 case atStart=>exact⟨0,rfl,by omega,fun j _ hj=>by omega,Bel.refl _⟩
 case round =>
  obtain⟨m,rfl,m1,hm,hbw⟩:=hrel
  have hbz:=hbw.size
  by_cases h1:m<l.length
  ·
   have hd:decide ((m:Int)<(l.length:Int))=true:=by simp[h1]
   (obtain⟨b1,o1,x1_0,x1_1,x1_2,x1_3,x1_4,x1_5,hA1,hS1,hl1,hx1,hv1,g1_0,g1_1,g1_2,g1_3,g1_4,g1_5,c1_0,c1_1,c1_2,c1_3,c1_4,c1_5⟩:=TValue.at HR.out m h1;subst hA1;have HV1:=hide (Dat.HoldVals.bel hbw hv1);have hh1:=hbw.box b1 hl1;have hw1:=Nat.lt_of_lt_of_le hl1 (Bel.size hbw);replace c1_0:=(hh1 _).trans c1_0;replace c1_1:=(hh1 _).trans c1_1;replace c1_2:=(hh1 _).trans c1_2;replace c1_3:=(hh1 _).trans c1_3;replace c1_4:=(hh1 _).trans c1_4;replace c1_5:=(hh1 _).trans c1_5;have HX1:=hide hx1;clear hh1 hv1 hx1 hS1)
   have hne1:¬b1=wr.heap.size:=by omega
   have HD:=hide (show dataB s l[m].v=dataB s ⟨x1_0,x1_1,x1_2,x1_3,x1_4,x1_5⟩ by rw[HX1.out];rfl)
   cases hn:dataB s ⟨x1_0,x1_1,x1_2,x1_3,x1_4,x1_5⟩
   ·
    have HN:=hide hn
    have HA:=hide (all_at m h1 (HD.out.trans hn))
    clear hn
    have mkq:=True.intro
    repeat (any_goals ((first | clear mkq | go_quiet (fail));(try go_wp2_with ((go_at_call 12;refine (implData_any s ⟨x1_0,x1_1,x1_2,x1_3,x1_4,x1_5⟩ S q _ (StoreAt.bel bl HS.out) ⟨g1_0,g1_1,g1_2,g1_3,g1_4,g1_5⟩).mono ?_;rintro e w1 ⟨rfl,hb1⟩);rw[HN.out]))))
    all_goals
     go_returns
     exact⟨by rw[HA.out];first | done | rfl,bl⟩
   ·
    have HN:=hide hn
    clear hn
    have mkq:=True.intro
    repeat (any_goals ((first | clear mkq | go_quiet (fail));(try go_wp2_with ((go_at_call 12;refine (implData_any s ⟨x1_0,x1_1,x1_2,x1_3,x1_4,x1_5⟩ S q _ (StoreAt.bel bl HS.out) ⟨g1_0,g1_1,g1_2,g1_3,g1_4,g1_5⟩).mono ?_;rintro e w1 ⟨rfl,hb1⟩);rw[HN.out]))))
    exact rk197
  ·
   exact rk185
theorem slice_uptoV {b o len c m:Nat} (h:m≤c) (w:World):(Instr.slice 27 (.slice (some ⟨b,o,none⟩) len c) none (some (.int .i64 (m:Int))) none).run Tryd.prog w=.ok (.slice (some ⟨b,o,none⟩) m c) w:=by
 rw[run_slice_h (P:=Tryd.prog) (ht:=by rw[Tryd.underlying27];kernel_rfl) (h0:=by omega) (h2:=by omega)]
 simp[sliced,go_sem,Tryd.sizeOf34,Addr.add]
def idxV (l:List TValue) (x:VVal):Int:=match l.findIdx? (fun y=>y.v.eqB x)with | some k=>k | none=>-1
theorem idxV_hit {l:List TValue} {x:VVal} (k:Nat) (hk:k<l.length) (h:l[k].v.eqB x=true) (hb:∀j (hj:j<l.length),j<k→l[j].v.eqB x=false):idxV l x=k:=by
 unfold idxV
 rw[(List.findIdx?_eq_some_iff_getElem (xs:=l) (p:=fun y:TValue=>y.v.eqB x) (i:=k)).2 ⟨hk,h,fun j hj=>by rw[hb j (by omega) hj];simp⟩]
theorem idxV_miss {l:List TValue} {x:VVal} (h:∀j (hj:j<l.length),l[j].v.eqB x=false):idxV l x = -1:=by
 unfold idxV
 rw[List.findIdx?_eq_none_iff.2 fun y hy=>by
  obtain⟨k,hk,rfl⟩:=List.mem_iff_getElem.1 hy
  exact h k hk]
theorem idxV_any (l:List TValue) (x:VVal):decide (0≤idxV l x)=l.any fun y=>y.v.eqB x:=by
 unfold idxV
 cases hf:l.findIdx? (fun y=>y.v.eqB x)with
 | none =>
  rw[List.findIdx?_eq_none_iff]at hf
  rw[List.any_eq_false.2 fun y hy=>by rw[hf y hy];simp]
  rfl
 | some k =>
  obtain⟨h1,h2,-⟩:=List.findIdx?_eq_some_iff_getElem.1 hf
  rw[List.any_eq_true.2 ⟨l[k],List.getElem_mem h1,h2⟩]
  simp
set_option maxHeartbeats 1000000 in
theorem indexV_any (l:List TValue) (x:VVal) (S:Nat→Prop) (w:World) (A:Option Addr) (c:Nat) (hR:Row w S 6 A c (l.map TValue.D)) :
  Calls Tryd.prog 82 #[.slice A l.length c,.agg #[.int .i64 x.k,.int .i64 x.n,.int .i64 x.i,.string x.t,.int .i64 x.lo,.int .i64 x.hi]] w fun e w'=>e=.returned (.int .i64 (idxV l x))∧Bel w w':=by
 have HR:=hide hR
 have hlen:=hR.1
 have hcm:=hR.2.1
 simp only[List.length_map]at hlen
 unfold maxLen at hcm
 clear hR
 obtain⟨y0,y1,y2,y3,y4,y5⟩:=x
 simp only
 go_enter Tryd.func82,Tryd.ntmps82
 go_wp2_with (fail)
 repeat (any_goals (go_quiet (fail);(try go_wp2_with (fail))))
 go_loopw [8] (fun v wr=>∃m:Nat,v=.int .i64 m∧m≤l.length∧Hid (∀j (hj:j<l.length),j<m→l[j].v.eqB ⟨y0,y1,y2,y3,y4,y5⟩=false)∧Bel (w.alloc (.cells #[.int .i64 y0,.int .i64 y1,.int .i64 y2,.string y3,.int .i64 y4,.int .i64 y5] 34)) wr) (fun v _=>l.length - (intOf v).toNat)
 case atStart=>exact⟨0,rfl,by omega,fun j _ hj=>by omega,bl⟩
 case round =>
  obtain⟨m,rfl,m1,hm,hbx⟩:=hrel
  have hbw:Bel w wr:=Bel.trans (Bel.alloc (Bel.refl w) _) hbx
  have hz:=hbx.size
  simp only[World.size_alloc]at hz
  have hx0:=hbx.box w.heap.size (by simp)
  by_cases h1:m<l.length
  ·
   have hd:decide ((m:Int)<(l.length:Int))=true:=by simp[h1]
   (obtain⟨b1,o1,x1_0,x1_1,x1_2,x1_3,x1_4,x1_5,hA1,hS1,hl1,hx1,hv1,g1_0,g1_1,g1_2,g1_3,g1_4,g1_5,c1_0,c1_1,c1_2,c1_3,c1_4,c1_5⟩:=TValue.at HR.out m h1;subst hA1;have HV1:=hide (Dat.HoldVals.bel hbw hv1);have hh1:=hbw.box b1 hl1;have hw1:=Nat.lt_of_lt_of_le hl1 (Bel.size hbw);replace c1_0:=(hh1 _).trans c1_0;replace c1_1:=(hh1 _).trans c1_1;replace c1_2:=(hh1 _).trans c1_2;replace c1_3:=(hh1 _).trans c1_3;replace c1_4:=(hh1 _).trans c1_4;replace c1_5:=(hh1 _).trans c1_5;have HX1:=hide hx1;clear hh1 hv1 hx1 hS1)
   have HQ:=hide (show l[m].v.eqB ⟨y0,y1,y2,y3,y4,y5⟩=VVal.eqB ⟨y0,y1,y2,y3,y4,y5⟩ ⟨x1_0,x1_1,x1_2,x1_3,x1_4,x1_5⟩ by rw[VVal.eqB_symm,HX1.out];rfl)
   cases hn:VVal.eqB ⟨y0,y1,y2,y3,y4,y5⟩ ⟨x1_0,x1_1,x1_2,x1_3,x1_4,x1_5⟩
   ·
    have HQ2:=hide (HQ.out.trans hn)
    have hrun:=fun w=>(run_eqV y0 y1 y2 y3 y4 y5 x1_0 x1_1 x1_2 x1_3 x1_4 x1_5 w).trans (by rw[hn])
    clear hn
    go_wp2_with (fail)
    repeat (any_goals (go_quiet (fail);(try go_wp2_with (fail))))
    go_roundw
    case rel=>exact⟨m+1,by go_num,by omega,fun j hj hjm=>by
     by_cases e:j=m
     ·
      subst e;exact HQ2.out
     ·
      exact hm.out j hj (by omega),bl⟩
    case measure=>simp[intOf];omega
   ·
    have HA:=hide (idxV_hit m h1 (HQ.out.trans hn) fun j hj hjm=>hm.out j hj hjm)
    have hrun:=fun w=>(run_eqV y0 y1 y2 y3 y4 y5 x1_0 x1_1 x1_2 x1_3 x1_4 x1_5 w).trans (by rw[hn])
    clear hn
    exact rk206
  ·
   have hd:decide ((m:Int)<(l.length:Int))=false:=by simp[h1]
   have HA:=hide (idxV_miss (l:=l) fun k hk=>hm.out k hk (by omega))
   go_wp2_with (fail)
   repeat (any_goals (go_quiet (fail);(try go_wp2_with (fail))))
   all_goals
    go_returns
    exact⟨by rw[HA.out];first | done | rfl,bl⟩
set_option maxHeartbeats 1000000 in
theorem containsV_any (l:List TValue) (x:VVal) (S:Nat→Prop) (w:World) (A:Option Addr) (c:Nat) (hR:Row w S 6 A c (l.map TValue.D)) :
  Calls Tryd.prog 71 #[.slice A l.length c,.agg #[.int .i64 x.k,.int .i64 x.n,.int .i64 x.i,.string x.t,.int .i64 x.lo,.int .i64 x.hi]] w fun e w'=>e=.returned (.bool (l.any fun y=>y.v.eqB x))∧Bel w w':=by
 have HR:=hide hR
 have hlen:=hR.1
 have hcm:=hR.2.1
 simp only[List.length_map]at hlen
 unfold maxLen at hcm
 clear hR
 have HI:=hide (idxV_any l x)
 obtain⟨y0,y1,y2,y3,y4,y5⟩:=x
 simp only
 go_enter Tryd.func71,Tryd.ntmps71
 have mkq:=True.intro
 repeat (any_goals ((first | clear mkq | go_quiet (fail));(try go_wp2_with (go_at_call 82;refine (indexV_any l ⟨y0,y1,y2,y3,y4,y5⟩ S _ _ _ (Row.bel bl HR.out)).mono ?_;rintro e w1 ⟨rfl,hb1⟩))))
 all_goals
  go_returns
  exact⟨by rw[←HI.out];first | done | rfl,bl⟩
theorem Row.taken {w:World} {S:Nat→Prop} {k c:Nat} {A:Option Addr} {xs:List (List Dat)} (h:Row w S k A c xs) (n:Nat):Row w S k A c (xs.take n):=by
 obtain⟨h1,h2,h3⟩:=h
 refine⟨by rw[List.length_take];omega,h2,fun hne=>?_⟩
 obtain⟨b,o,hA,hS,hb,hr⟩:=h3 (fun e=>hne (by rw[e];simp))
 refine⟨b,o,hA,hS,hb,Dat.HoldRows.mk fun i hi=>?_⟩
 have hi2:i<xs.length:=by simp at hi;omega
 rw[List.getElem_take]
 exact hr.get i hi2
set_option maxHeartbeats 1000000 in
theorem implDist_any (l:List TValue) (S:Nat→Prop) (w:World) (A:Option Addr) (c:Nat) (hR:Row w S 6 A c (l.map TValue.D)) :
  Calls Tryd.prog 46 #[.slice A l.length c] w fun e w'=>e=.returned (.bool (distB l))∧Bel w w':=by
 have HR:=hide hR
 have hlen:=hR.1
 have hcm:=hR.2.1
 simp only[List.length_map]at hlen
 unfold maxLen at hcm
 clear hR
 go_enter Tryd.func46,Tryd.ntmps46
 go_wp2_with (fail)
 repeat (any_goals (go_quiet (fail);(try go_wp2_with (fail))))
 go_loopw [6] (fun v wr=>∃m:Nat,v=.int .i64 m∧m≤l.length∧Hid (∀i (hi:i<l.length) k (hk:k<i),i<m→(l[k]'(by omega)).v.eqB l[i].v=false)∧Bel w wr) (fun v _=>l.length - (intOf v).toNat)
 case atStart=>exact⟨0,rfl,by omega,fun j _ _ _ hj=>by omega,Bel.refl _⟩
 case round =>
  obtain⟨m,rfl,m1,hm,hbw⟩:=hrel
  by_cases h1:m<l.length
  ·
   have hd:decide ((m:Int)<(l.length:Int))=true:=by simp[h1]
   (obtain⟨b1,o1,x1_0,x1_1,x1_2,x1_3,x1_4,x1_5,hA1,hS1,hl1,hx1,hv1,g1_0,g1_1,g1_2,g1_3,g1_4,g1_5,c1_0,c1_1,c1_2,c1_3,c1_4,c1_5⟩:=TValue.at HR.out m h1;subst hA1;have HV1:=hide (Dat.HoldVals.bel hbw hv1);have hh1:=hbw.box b1 hl1;have hw1:=Nat.lt_of_lt_of_le hl1 (Bel.size hbw);replace c1_0:=(hh1 _).trans c1_0;replace c1_1:=(hh1 _).trans c1_1;replace c1_2:=(hh1 _).trans c1_2;replace c1_3:=(hh1 _).trans c1_3;replace c1_4:=(hh1 _).trans c1_4;replace c1_5:=(hh1 _).trans c1_5;have HX1:=hide hx1;clear hh1 hv1 hx1 hS1)
   obtain⟨lt,hlt⟩:∃lt,lt=l.take m:=⟨_,rfl⟩
   have hll:lt.length=m:=by rw[hlt,List.length_take];omega
   have HRT:=hide (show Row w S 6 (some ⟨b1,o1,none⟩) c (lt.map TValue.D) by rw[hlt,List.map_take];exact Row.taken HR.out m)
   have HC:=hide (fun (wx:World) (hwx:Row wx S 6 (some ⟨b1,o1,none⟩) c (lt.map TValue.D))=>by have:=containsV_any lt ⟨x1_0,x1_1,x1_2,x1_3,x1_4,x1_5⟩ S wx _ _ hwx;rw[hll]at this;exact this)
   have HX:=hide (show (⟨x1_0,x1_1,x1_2,x1_3,x1_4,x1_5⟩:VVal)=l[m].v by rw[HX1.out];rfl)
   have HLT:=hide hlt
   clear hlt hll
   cases hn:(lt.any fun y=>y.v.eqB ⟨x1_0,x1_1,x1_2,x1_3,x1_4,x1_5⟩)
   ·
    have HN:=hide hn
    clear hn
    have hsl:=fun wx=>slice_uptoV (b:=b1) (o:=o1) (len:=l.length) (c:=c) (m:=m) (by omega) wx
    go_wp2_with (fail)
    repeat (any_goals (go_quiet (fail);(try go_wp2_with (fail))))
    go_region_held3 (fun w'=>w'.cell? ⟨b1,o1+m*6,none⟩=some (.int .i64 x1_0)∧w'.cell? ⟨b1,o1+m*6+1,none⟩=some (.int .i64 x1_1)∧w'.cell? ⟨b1,o1+m*6+2,none⟩=some (.int .i64 x1_2)∧w'.cell? ⟨b1,o1+m*6+3,none⟩=some (.string x1_3)∧w'.cell? ⟨b1,o1+m*6+4,none⟩=some (.int .i64 x1_4)∧w'.cell? ⟨b1,o1+m*6+5,none⟩=some (.int .i64 x1_5)) (go_keep) (first | (go_at_call 71;refine (HC.out _ (Row.bel bl HRT.out)).mono ?_;rintro e w1 ⟨rfl,hb1⟩;rw[HN.out];have hq1:=hb1.box b1 (by simp;omega);simp only[World.cell?_drew]at hq1))
    go_wp2_with (fail)
    repeat (any_goals (go_quiet (fail);(try go_wp2_with (fail))))
    go_roundw
    case rel=>exact⟨m+1,by go_num,by omega,fun i hi k hk him=>by
     by_cases e:i=m
     ·
      subst e
      have:=HN.out
      rw[HLT.out,List.any_eq_false]at this
      have h:=this (l[k]'(by omega)) (List.mem_iff_getElem.2 ⟨k,by simp;omega,by simp⟩)
      rw[HX.out]at h
      simpa using h
     ·
      exact hm.out i hi k hk (by omega),bl⟩
    case measure=>simp[intOf];omega
   ·
    have HN:=hide hn
    have HA:=hide (show distB l=false by
     have h2:=hn
     rw[HLT.out,List.any_eq_true]at h2
     obtain⟨y,hy,he⟩:=h2
     obtain⟨k,hk,rfl⟩:=List.mem_iff_getElem.1 hy
     rw[List.getElem_take,HX.out]at he
     exact dist_at m k h1 (by simp at hk;omega) he)
    clear hn
    have hsl:=fun wx=>slice_uptoV (b:=b1) (o:=o1) (len:=l.length) (c:=c) (m:=m) (by omega) wx
    go_wp2_with (fail)
    repeat (any_goals (go_quiet (fail);(try go_wp2_with (fail))))
    go_region_held3 (fun w'=>w'.cell? ⟨b1,o1+m*6,none⟩=some (.int .i64 x1_0)∧w'.cell? ⟨b1,o1+m*6+1,none⟩=some (.int .i64 x1_1)∧w'.cell? ⟨b1,o1+m*6+2,none⟩=some (.int .i64 x1_2)∧w'.cell? ⟨b1,o1+m*6+3,none⟩=some (.string x1_3)∧w'.cell? ⟨b1,o1+m*6+4,none⟩=some (.int .i64 x1_4)∧w'.cell? ⟨b1,o1+m*6+5,none⟩=some (.int .i64 x1_5)) (go_keep) (first | (go_at_call 71;refine (HC.out _ (Row.bel bl HRT.out)).mono ?_;rintro e w1 ⟨rfl,hb1⟩;rw[HN.out];have hq1:=hb1.box b1 (by simp;omega);simp only[World.cell?_drew]at hq1))
    go_wp2_with (fail)
    repeat (any_goals (go_quiet (fail);(try go_wp2_with (fail))))
    all_goals
     go_returns
     exact⟨by rw[HA.out];first | done | rfl,bl⟩
  ·
   exact rk184
end Go.Proofs.YtoikhhnmbbbjjaaDoor
namespace Go.Proofs.YtoikhhnmbbbjjaaDoor
set_option linter.unusedVariables false
set_option linter.unusedSimpArgs false
set_option maxRecDepth 100000
open Go.RowKit
--%quiet
abbrev PatI (s:TStore) (tag:Int) (its:List TValue):Prop:=∀(S S':Nat→Prop) (q:Nat) (w:World) (Ai:Option Addr) (ci:Nat),StoreAt w S q s→Row w S' 6 Ai ci (its.map TValue.D) →
 Calls Tryd.prog 47 #[.pointer (some ⟨q,0,none⟩),.int .i64 tag,.slice Ai its.length ci] w fun e w'=>e=.returned (.bool (patB s tag its))∧Bel w w'
theorem patB_len {s:TStore} {op:Int} {its:List TValue} (h:(patKinds op).length≠its.length):patB s op its=false:=by unfold patB;rw[decide_eq_false h];simp
theorem patB_out {s:TStore} {op:Int} {its:List TValue} (h:op<1∨23<op):patB s op its=false:=by unfold patB;rw[decide_eq_false (show ¬(1≤op∧op≤23) by omega)];simp
set_option maxHeartbeats 4000000 in
theorem implPat_out (s:TStore) (tag:Int) (its:List TValue) (h:tag<1∨23<tag):PatI s tag its:=by
 intro S S' q w Ai ci hs hR
 have HS:=hide hs
 have hq:=hs.1
 have hqn:¬q=w.heap.size:=by omega
 have HR:=hide hR
 have hlen:=hR.1
 have hcm:=hR.2.1
 simp only[List.length_map,List.length_cons,List.length_nil,Nat.reduceAdd]at hlen
 unfold maxLen at hcm
 clear hR hs
 have RR:=hide (patB_out (s:=s) (its:=its) h)
 rcases h with h | h
 all_goals
  go_enter Tryd.func47,Tryd.ntmps47
  exact rk77
end Go.Proofs.YtoikhhnmbbbjjaaDoor
