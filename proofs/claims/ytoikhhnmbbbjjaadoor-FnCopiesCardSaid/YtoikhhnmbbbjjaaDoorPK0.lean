/- Several lists of the call's own that do not share a block. -/
import Derived.Test.YtoikhhnmbbbjjaaDoorPOw
import Derived.Test.YtoikhhnmbbbjjaaDoorPTV
import Derived.Test.YtoikhhnmbbbjjaaDoorPMStringS
import Derived.Deep.RegionHeld3
import Derived.Deep.MidRow
import Derived.Deep.Cut
import Derived.Test.YtoikhhnmbbbjjaaDoorPB
namespace Go.Proofs.YtoikhhnmbbbjjaaDoor
set_option linter.unusedVariables false
set_option linter.unusedSimpArgs false
set_option maxRecDepth 100000
open Go.RowKit
structure Ent where
 E:TypeId
 k:Nat
 v:Value
 L:List Nat
 ds:List (List Dat)
structure Ents (N:Nat) (w:World) (l:List Ent):Prop where
 own:∀e∈l,OwnD w e.E e.k e.v e.L e.ds
 low:∀e∈l,∀b,Blk e.v e.L b→N≤b
 sep:l.Pairwise (fun e f=>∀b,Blk e.v e.L b→¬Blk f.v f.L b)
section
variable {N:Nat} {w w':World} {l:List Ent}
theorem Ents.nil (N:Nat) (w:World):Ents N w []:=⟨(fun _ h=>(by cases h)),(fun _ h=>(by cases h)),List.Pairwise.nil⟩
theorem Ents.keep (h:Ents N w l) (hs:w.heap.size≤w'.heap.size) (hb:∀e∈l,∀b,Blk e.v e.L b→w'.heap[b]?=w.heap[b]?):Ents N w' l :=
 ⟨fun e he=>(h.own e he).keep hs (hb e he),h.low,h.sep⟩
theorem Ents.bel (h:Ents N w l) (hb:Bel w w'):Ents N w' l:=h.keep hb.size fun e he b hm=>Below.block hb b ((h.own e he).lt b hm)
theorem Ents.far (h:Ents N w l) {b:Nat} (hb:b<N) (o:Nat) (u:Value):Ents N (w.setCell ⟨b,o,none⟩ u) l:=by
 refine h.keep (by simp) fun e he x hx=>?_
 have hn:b≠x:=by have:=h.low e he x hx;omega
 unfold World.setCell
 split
 all_goals
  show (w.heap.modify b _)[x]?=_
  rw[Array.getElem?_modify,if_neg hn]
theorem Ents.snoc (h:Ents N w l) (hb:Bel w w') {e:Ent} (ho:OwnD w' e.E e.k e.v e.L e.ds) (hN:N≤w.heap.size) (hn:∀b,Blk e.v e.L b→w.heap.size≤b):Ents N w' (l++[e]):=by
 have h':=h.bel hb
 refine⟨fun f hf=>?_,fun f hf=>?_,List.pairwise_append.2 ⟨h.sep,List.pairwise_singleton _ _,fun f hf g hg b hb hc=>?_⟩⟩
 ·
  rcases List.mem_append.1 hf with hf | hf
  ·
   exact h'.own f hf
  ·
   rw[List.mem_singleton.1 hf];exact ho
 ·
  rcases List.mem_append.1 hf with hf | hf
  ·
   exact h.low f hf
  ·
   rw[List.mem_singleton.1 hf];exact fun b hb=>Nat.le_trans hN (hn b hb)
 ·
  rw[List.mem_singleton.1 hg]at hc
  have h1:=(h.own f hf).lt b hb
  have h2:=hn b hc
  omega
theorem Ents.grow {e e':Ent} (h:Ents N w (l++[e])) {wm:World} (hm:Bel w wm) (hg:wm.grownBy w' e.v.ownBlock) (hN:N≤w.heap.size) (ho:OwnD w' e'.E e'.k e'.v e'.L e'.ds) (hn:∀b,Blk e'.v e'.L b→Blk e.v e.L b∨w.heap.size≤b):Ents N w' (l++[e']):=by
 have hp:=List.pairwise_append.1 h.sep
 have low:∀b,Blk e'.v e'.L b→N≤b:=fun b hb=>(hn b hb).elim (fun q=>h.low e (by simp) b q) (fun q=>Nat.le_trans hN q)
 have sep:∀f∈l,∀b,Blk f.v f.L b→¬Blk e.v e.L b:=fun f hf=>hp.2.2 f hf e (by simp)
 refine⟨fun f hf=>?_,fun f hf=>?_,List.pairwise_append.2 ⟨hp.1,List.pairwise_singleton _ _,fun f hf g hg b hb hc=>?_⟩⟩
 ·
  rcases List.mem_append.1 hf with hf | hf
  ·
   refine (h.own f (by simp[hf])).keep (Nat.le_trans hm.size hg.size) fun b hb=>?_
   have hl:=(h.own f (by simp[hf])).lt b hb
   exact (hg.block b (Nat.lt_of_lt_of_le hl hm.size) (fun q=>sep f hf b hb (Or.inl q.symm))).trans (Below.block hm b hl)
  ·
   rw[List.mem_singleton.1 hf];exact ho
 ·
  rcases List.mem_append.1 hf with hf | hf
  ·
   exact h.low f (by simp[hf])
  ·
   rw[List.mem_singleton.1 hf];exact low
 ·
  rw[List.mem_singleton.1 hg]at hc
  rcases hn b hc with q | q
  ·
   exact sep f hf b hb q
  ·
   have:=(h.own f (by simp[hf])).lt b hb
   omega
theorem Ents.at (h:Ents N w l) {i:Nat} {e:Ent} (he:l[i]?=some e):OwnD w e.E e.k e.v e.L e.ds:=h.own e (List.mem_of_getElem? he)
theorem OwnD.blk_nil {b:Nat} (h:Blk (.slice none 0 0) [] b):False:=by
 rcases h with h | h <;> cases h
end
end Go.Proofs.YtoikhhnmbbbjjaaDoor
namespace Go.Proofs.YtoikhhnmbbbjjaaDoor
set_option linter.unusedVariables false
set_option linter.unusedSimpArgs false
set_option maxRecDepth 100000
open Go.RowKit
def TRecordType.fl:TRecordType→List ByteArray | .mk _ f _=>f
theorem strs_flat (cs:List ByteArray):∀ds∈cs.map (fun x=>[Dat.str x]),∀d∈ds,d.flat:=by
 intro ds hds d hd
 obtain⟨x,-,rfl⟩:=List.mem_map.1 hds
 rw[List.mem_singleton.1 hd]
 trivial
theorem infoStr:(Tryd.prog.info? 9).map (fun i=>(i.zero,i.size,i.bytes))=some (some (.string ByteArray.empty),1,16):=by kernel_rfl
theorem infoRec:(Tryd.prog.info? 71).map (fun i=>(i.zero,i.size,i.bytes))=some (some (.agg #[.string ByteArray.empty,.slice none 0 0,.int .i64 0]),3,48):=by kernel_rfl
abbrev RecC (f:FuncId):Prop:=∀(xs:List TRecordType) (S:Nat→Prop) (w:World) (A:Option Addr) (c:Nat),Row w S 3 A c (xs.map TRecordType.D)→xs.length≤1048576→(∀(k:Nat) (h:k<xs.length),xs[k].fl.length≤1048576) →
 Calls Tryd.prog f #[.slice A xs.length c] w fun e w'=>∃v L,e=.returned v∧OwnD w' 71 3 v L (xs.map TRecordType.D)∧(∀b,Blk v L b→w.heap.size≤b)∧Bel w w'
theorem take_D {α:Type} (D:α→List Dat) {l:List α} {i:Nat} (h:i<l.length):(l.take (i+1)).map D=(l.take i).map D++[D l[i]]:=by
 rw[List.take_succ_eq_append_getElem h,List.map_append,List.map_cons,List.map_nil]
theorem wp_named2 {P:Program} {c:Code} {Q:Exit→Act→World→Prop} {a:Act} {W:World} (h:∀wq,W=wq→Code.wp P c Q a wq):Code.wp P c Q a W:=h W rfl
set_option maxHeartbeats 2000000 in
theorem specRecs_any:RecC 33:=by
 intro xs S w A c hR hx hf
 have HR:=hide hR
 have HF:=hide hf
 have hlc:=hR.1
 have hcm:=hR.2.1
 simp only[List.length_map]at hlc
 unfold maxLen at hcm
 clear hR hf
 obtain⟨is,his,zs0,zs1,zs2⟩:=info_parts infoStr
 obtain⟨ir,hir,zr0,zr1,zr2⟩:=info_parts infoRec
 go_enter Tryd.func33,Tryd.ntmps33
 go_wp2_with (fail)
 go_loopw [3,4] (fun lv iv wr=>∃(i:Nat) (v:Value) (L:List Nat),v=lv∧iv=.int .i64 i∧i≤xs.length∧Hid (OwnD wr 71 3 v L ((xs.take i).map TRecordType.D))∧Hid (∀b,Blk v L b→w.heap.size≤b)∧Hid (Bel w wr)) (fun _ iv _=>xs.length - (intOf iv).toNat)
 case atStart=>exact⟨0,_,[],rfl,rfl,Nat.zero_le _,hide (OwnD.lit0 _ _ _),hide (fun b hb=>by rcases hb with hb | hb;(have e:=Option.some.inj (show some w.heap.size=some b from hb);omega);cases hb),hide bl⟩
 case round =>
  obtain⟨i,v,L,rfl,rfl,hi,HO,HB,HBR⟩:=hrel
  by_cases h:i<xs.length
  ·
   skip
   have hdc:decide ((i:Int)<(xs.length:Int))=true:=by simp;omega
   have hi0:(0:Int)≤(i:Int):=by omega
   have hi1:(i:Int)<(xs.length:Int):=by omega
   have hbw:=HBR.out
   (obtain⟨b1,o1,x1_0,x1_1,x1_2,A1_1,C1_1,hA1,hS1,hl1,hx1,hv1,g1_0,g1_1,g1_2,c1_0,c1_1,c1_2⟩:=TRecordType.at HR.out i h;subst hA1;have HV1:=hide (Dat.HoldVals.bel hbw hv1);have hh1:=hbw.box b1 hl1;have hw1:=Nat.lt_of_lt_of_le hl1 (Bel.size hbw);replace c1_0:=(hh1 _).trans c1_0;replace c1_1:=(hh1 _).trans c1_1;replace c1_2:=(hh1 _).trans c1_2;have HX1:=hide hx1;have GR1_1:=hide g1_1;clear hh1 hv1 hx1 hS1 g1_1)
   have hfl:=HF.out i h
   rw[HX1.out]at hfl
   simp only[TRecordType.fl]at hfl
   have hlf:=GR1_1.out.1
   have hmf:=GR1_1.out.2.1
   simp only[List.length_map]at hlf
   unfold maxLen at hmf
   go_upto_region 5 with (fail)
   have hbrA:Bel wr wr:=Bel.refl _
   have k0:=c1_0
   have k1:=c1_1
   have k2:=c1_2
   have HOA:=hide (HO.out.bel hbrA)
   have hbA:=Bel.trans hbw hbrA
   refine wp_region_held_drew (S:=fun w'=>w'.cell? ⟨b1,o1+i*3,none⟩=some (.string x1_0)∧w'.cell? ⟨b1,o1+i*3+1,none⟩=some (.slice A1_1 x1_1.length C1_1)∧w'.cell? ⟨b1,o1+i*3+2,none⟩=some (.int .i64 x1_2)) (by kernel_rfl) ?_ (fun hHeld=>?_)
   ·
    exact⟨k0,k1,k2⟩
   refine tkI 0 ?_
   refine tkI 1 ?_
   refine tkI 2 ?_
   refine tkI 3 ?_
   refine tkI 4 ?_
   refine tkI 5 ?_
   refine tkI 7 ?_
   refine tkI 8 ?_
   refine tkI 9 ?_
   refine tkI 10 ?_
   refine tkI 11 ?_
   refine tkI 13 ?_
   refine tkI 14 ?_
   refine tkI 15 ?_
   refine tkI 16 ?_
   refine tkI 17 ?_
   have hlB:b1<wr.heap.size:=by exact hw1
   refine wpAnyH_ready (rs:=[6]) (by kernel_rfl) (by simp) ?_
   refine AllReadyH.cons (o:=_) rfl (fun K hK=>?_) AllReadyH.nil
   go_simp
   clear hHeld
   have hb1:Bel wr ((wr.alloc (.cells #[] 9)).drew):=bl
   have hO5:=OwnD.bel (OwnD.lit0 wr 9 1) (show Bel _ ((wr.alloc (.cells #[] 9)).drew)from bl)
   refine hK.out _ _ ?_ (fun hHeld=>?_)
   ·
    exact⟨(hb1.box b1 hlB _).trans k0,(hb1.box b1 hlB _).trans k1,(hb1.box b1 hlB _).trans k2⟩
   clear hK K
   (try simp only[Act.put,List.setIfInBounds_toArray,List.set_cons_zero,List.set_cons_succ,List.getElem_toArray,List.getElem_cons_zero,List.getElem_cons_succ])
   refine wpAnyH_ready (rs:=[12]) (by kernel_rfl) (by simp) ?_
   refine AllReadyH.cons (o:=_) rfl (fun K hK=>?_) AllReadyH.nil
   rw[if_pos (by rfl)]
   obtain⟨nw1,hsr1⟩:=Row.src (strs_flat x1_1) (Row.bel (Bel.trans hbA hb1) GR1_1.out)
   rw[List.length_map]at hsr1
   refine wp_append_D (.tmp 18) (.tmp 23) 24 rfl 9 is (.string ByteArray.empty) 1 16 Tryd.underlying24 his zs0 zs1 zs2 (by decide) (by decide) hO5 hsr1 C1_1 rfl rfl (fun b _ h=>by cases h) (by simp only[List.length_nil];omega) (by unfold maxLen;simp only[List.length_nil];omega) fun v5 w5 hO6 hg5 hw5=>?_
   have hb2:Bel wr w5:=Below.grown hb1 hg5 (by simp) (fun k hk=>by have:=Option.some.inj (show some wr.heap.size=some k from hk);omega)
   obtain⟨A6,c6,L6,hv6e,hr6,hn6,hk6⟩:=hO6.ownRow
   subst hv6e
   simp only[List.nil_append,List.length_map]at hr6 hk6 hw5 ⊢
   have HR6:=hide hr6
   have HN6:=hide hn6
   have HK6:=hide (show ∀b,b∈L6→wr.heap.size≤b from fun b hb=>(hk6 b hb).elim (fun q=>(hw5 b q).elim (fun q=>by have:=Option.some.inj (show some wr.heap.size=some b from q);omega) (fun q=>by have:=hb1.size;omega)) (fun q=>by cases q))
   clear hsr1 hO5 hO6 hg5 hw5 hr6 hn6 hk6
   refine hK.out _ _ ?_ (fun hHeld=>?_)
   ·
    exact⟨(hb2.box b1 hlB _).trans k0,(hb2.box b1 hlB _).trans k1,(hb2.box b1 hlB _).trans k2⟩
   clear hK K
   (try simp only[Act.put,List.setIfInBounds_toArray,List.set_cons_zero,List.set_cons_succ,List.getElem_toArray,List.getElem_cons_zero,List.getElem_cons_succ])
   refine tkI 18 ?_
   refine wpAnyH_ready (rs:=[19]) (by kernel_rfl) (by simp) ?_
   refine AllReadyH.cons (o:=_) rfl (fun K hK=>?_) AllReadyH.nil
   go_simp
   clear hHeld
   have hb3:Bel wr (w5.alloc (.cells #[.string x1_0,.slice A6 x1_1.length c6,.int .i64 x1_2] 71)):=bl
   have hown:=OwnD.lit1 (k:=3) w5 71 (TRecordType.own_mk g1_0 HR6.out g1_2) rfl HN6.out
   obtain⟨nw3,hsr3⟩:=hown.src
   have HSR3:=hide hsr3
   clear hown hsr3
   have HO7:=hide (HOA.out.bel hb3)
   refine hK.out _ _ ?_ (fun hHeld=>?_)
   ·
    exact⟨(hb3.box b1 hlB _).trans k0,(hb3.box b1 hlB _).trans k1,(hb3.box b1 hlB _).trans k2⟩
   clear hK K
   (try simp only[Act.put,List.setIfInBounds_toArray,List.set_cons_zero,List.set_cons_succ,List.getElem_toArray,List.getElem_cons_zero,List.getElem_cons_succ])
   refine wpAnyH_ready (rs:=[20]) (by kernel_rfl) (by simp) ?_
   refine AllReadyH.cons (o:=_) rfl (fun K hK=>?_) AllReadyH.nil
   rw[if_pos (by rfl)]
   refine wp_append_D (.tmp 12) (.tmp 31) 25 rfl 71 ir (.agg #[.string ByteArray.empty,.slice none 0 0,.int .i64 0]) 3 48 Tryd.underlying25 hir zr0 zr1 zr2 (by decide) (by decide) HO7.out HSR3.out 1 rfl rfl (fun b hb hm=>by have h1:=HOA.out.lt b hb;have h2:=HK6.out b hm;omega) (by rw[List.length_map,List.length_take];omega) (by rw[List.length_map,List.length_take];unfold maxLen;omega) fun v8 w8 hO8 hg8 hw8=>?_
   have hb8:Bel w w8:=Below.grown (Bel.trans hbA hb3) hg8 (Bel.trans hbA hb3).size (fun k hk=>HB.out k (Or.inl hk))
   have hne:v.ownBlock≠some b1:=fun q=>by have:=HB.out _ (Or.inl q);omega
   have hz3:=hb3.size
   have e8:=hg8.block b1 (by omega) (fun q=>hne q.symm)
   refine hK.out _ _ ?_ (fun hHeld=>?_)
   ·
    exact⟨(World.cell?_of_block e8).trans ((hb3.box b1 hlB _).trans k0),(World.cell?_of_block e8).trans ((hb3.box b1 hlB _).trans k1),(World.cell?_of_block e8).trans ((hb3.box b1 hlB _).trans k2)⟩
   clear hK K
   (try simp only[Act.put,List.setIfInBounds_toArray,List.set_cons_zero,List.set_cons_succ,List.getElem_toArray,List.getElem_cons_zero,List.getElem_cons_succ])
   refine tkI 21 ?_
   refine wpAnyH_done (by kernel_rfl) ?_ _
   clear hHeld
   have HO9:=hide (show OwnD w8 71 3 v8 (L++L6) ((xs.take (i+1)).map TRecordType.D) by rw[take_D TRecordType.D h,HX1.out];exact hO8)
   have hz8:=hbA.size
   have HB9:=hide (show ∀b,Blk v8 (L++L6) b→w.heap.size≤b from fun b hb=>hb.elim (fun q=>(hw8 b q).elim (fun q=>HB.out b (Or.inl q)) (fun q=>by have:=(Bel.trans hbA hb3).size;omega)) (fun q=>(List.mem_append.1 q).elim (fun q=>HB.out b (Or.inr q)) (fun q=>by have:=HK6.out b q;omega)))
   clear hO8 hg8 hw8 e8
   go_wp2_with (fail)
   all_goals go_roundw
   case rel=>exact⟨i+1,_,_,rfl,by go_num,by omega,hide (HO9.out.bel bl),hide HB9.out,hide (Bel.trans hb8 bl)⟩
   case measure=>simp[intOf];omega
  ·
   skip
   have hdc:decide ((i:Int)<(xs.length:Int))=false:=by simp;omega
   have HO9:=hide (show OwnD wr 71 3 v L (xs.map TRecordType.D) by have:=HO.out;rw[List.take_of_length_le (by omega)]at this;exact this)
   obtain⟨A9,n9,c9,rfl⟩:∃A9 n9 c9,v=.slice A9 n9 c9:=by obtain⟨A0,c0,L0,hv0,_⟩:=HO.out.ownRow;exact⟨_,_,_,hv0⟩
   go_wp2_with (fail)
   all_goals
    go_returns
    exact⟨_,L,rfl,HO9.out.bel bl,HB.out,Bel.trans HBR.out bl⟩
set_option maxHeartbeats 2000000 in
theorem implRecs_any:RecC 31:=by
 intro xs S w A c hR hx hf
 have HR:=hide hR
 have HF:=hide hf
 have hlc:=hR.1
 have hcm:=hR.2.1
 simp only[List.length_map]at hlc
 unfold maxLen at hcm
 clear hR hf
 obtain⟨is,his,zs0,zs1,zs2⟩:=info_parts infoStr
 obtain⟨ir,hir,zr0,zr1,zr2⟩:=info_parts infoRec
 go_enter Tryd.func31,Tryd.ntmps31
 go_wp2_with (fail)
 go_loopw [3,9] (fun lv iv wr=>∃(i:Nat) (v:Value) (L:List Nat),v=lv∧iv=.int .i64 i∧i≤xs.length∧Hid (OwnD wr 71 3 v L ((xs.take i).map TRecordType.D))∧Hid (∀b,Blk v L b→w.heap.size≤b)∧Hid (Bel w wr)) (fun _ iv _=>xs.length - (intOf iv).toNat)
 case atStart=>exact⟨0,_,[],rfl,rfl,Nat.zero_le _,hide (OwnD.lit0 _ _ _),hide (fun b hb=>by rcases hb with hb | hb;(have e:=Option.some.inj (show some w.heap.size=some b from hb);omega);cases hb),hide bl⟩
 case round =>
  obtain⟨i,v,L,rfl,rfl,hi,HO,HB,HBR⟩:=hrel
  by_cases h:i<xs.length
  ·
   skip
   have hdc:decide ((i:Int)<(xs.length:Int))=true:=by simp;omega
   have hi0:(0:Int)≤(i:Int):=by omega
   have hi1:(i:Int)<(xs.length:Int):=by omega
   have hbw:=HBR.out
   (obtain⟨b1,o1,x1_0,x1_1,x1_2,A1_1,C1_1,hA1,hS1,hl1,hx1,hv1,g1_0,g1_1,g1_2,c1_0,c1_1,c1_2⟩:=TRecordType.at HR.out i h;subst hA1;have HV1:=hide (Dat.HoldVals.bel hbw hv1);have hh1:=hbw.box b1 hl1;have hw1:=Nat.lt_of_lt_of_le hl1 (Bel.size hbw);replace c1_0:=(hh1 _).trans c1_0;replace c1_1:=(hh1 _).trans c1_1;replace c1_2:=(hh1 _).trans c1_2;have HX1:=hide hx1;have GR1_1:=hide g1_1;clear hh1 hv1 hx1 hS1 g1_1)
   have hfl:=HF.out i h
   rw[HX1.out]at hfl
   simp only[TRecordType.fl]at hfl
   have hlf:=GR1_1.out.1
   have hmf:=GR1_1.out.2.1
   simp only[List.length_map]at hlf
   unfold maxLen at hmf
   go_upto_region 5 with (fail)
   refine wp_named2 fun wA hwA=>?_
   have hbrA:Bel wr wA:=by rw[←hwA];exact bl
   have hzA:wr.heap.size<wA.heap.size:=by rw[←hwA];simp
   have k0:wA.cell? ⟨wr.heap.size,0,none⟩=some (.string x1_0):=by rw[←hwA];simp[go_sem]
   have k1:wA.cell? ⟨wr.heap.size,1,none⟩=some (.slice A1_1 x1_1.length C1_1):=by rw[←hwA];simp[go_sem]
   have k2:wA.cell? ⟨wr.heap.size,2,none⟩=some (.int .i64 x1_2):=by rw[←hwA];simp[go_sem]
   clear hwA
   have HOA:=hide (HO.out.bel hbrA)
   have hbA:=Bel.trans hbw hbrA
   refine wp_region_held_drew (S:=fun w'=>w'.cell? ⟨wr.heap.size,0,none⟩=some (.string x1_0)∧w'.cell? ⟨wr.heap.size,1,none⟩=some (.slice A1_1 x1_1.length C1_1)∧w'.cell? ⟨wr.heap.size,2,none⟩=some (.int .i64 x1_2)) (by kernel_rfl) ?_ (fun hHeld=>?_)
   ·
    exact⟨k0,k1,k2⟩
   refine tkI 0 ?_
   refine tkI 1 ?_
   refine tkI 2 ?_
   refine tkI 4 ?_
   refine tkI 5 ?_
   refine tkI 7 ?_
   refine tkI 8 ?_
   have hlB:wr.heap.size<wA.heap.size:=by omega
   refine wpAnyH_ready (rs:=[3]) (by kernel_rfl) (by simp) ?_
   refine AllReadyH.cons (o:=_) rfl (fun K hK=>?_) AllReadyH.nil
   go_simp
   clear hHeld
   have hb1:Bel wA ((wA.alloc (.cells #[] 9)).drew):=bl
   have hO5:=OwnD.bel (OwnD.lit0 wA 9 1) (show Bel _ ((wA.alloc (.cells #[] 9)).drew)from bl)
   refine hK.out _ _ ?_ (fun hHeld=>?_)
   ·
    exact⟨(hb1.box wr.heap.size hlB _).trans k0,(hb1.box wr.heap.size hlB _).trans k1,(hb1.box wr.heap.size hlB _).trans k2⟩
   clear hK K
   (try simp only[Act.put,List.setIfInBounds_toArray,List.set_cons_zero,List.set_cons_succ,List.getElem_toArray,List.getElem_cons_zero,List.getElem_cons_succ])
   refine wpAnyH_ready (rs:=[6]) (by kernel_rfl) (by simp) ?_
   refine AllReadyH.cons (o:=_) rfl (fun K hK=>?_) AllReadyH.nil
   rw[if_pos (by rfl)]
   obtain⟨nw1,hsr1⟩:=Row.src (strs_flat x1_1) (Row.bel (Bel.trans hbA hb1) GR1_1.out)
   rw[List.length_map]at hsr1
   refine wp_append_D (.tmp 16) (.tmp 18) 24 rfl 9 is (.string ByteArray.empty) 1 16 Tryd.underlying24 his zs0 zs1 zs2 (by decide) (by decide) hO5 hsr1 C1_1 rfl rfl (fun b _ h=>by cases h) (by simp only[List.length_nil];omega) (by unfold maxLen;simp only[List.length_nil];omega) fun v5 w5 hO6 hg5 hw5=>?_
   have hb2:Bel wA w5:=Below.grown hb1 hg5 (by simp) (fun k hk=>by have:=Option.some.inj (show some wA.heap.size=some k from hk);omega)
   obtain⟨A6,c6,L6,hv6e,hr6,hn6,hk6⟩:=hO6.ownRow
   subst hv6e
   simp only[List.nil_append,List.length_map]at hr6 hk6 hw5 ⊢
   have HR6:=hide hr6
   have HN6:=hide hn6
   have HK6:=hide (show ∀b,b∈L6→wA.heap.size≤b from fun b hb=>(hk6 b hb).elim (fun q=>(hw5 b q).elim (fun q=>by have:=Option.some.inj (show some wA.heap.size=some b from q);omega) (fun q=>by have:=hb1.size;omega)) (fun q=>by cases q))
   clear hsr1 hO5 hO6 hg5 hw5 hr6 hn6 hk6
   refine hK.out _ _ ?_ (fun hHeld=>?_)
   ·
    exact⟨(hb2.box wr.heap.size hlB _).trans k0,(hb2.box wr.heap.size hlB _).trans k1,(hb2.box wr.heap.size hlB _).trans k2⟩
   clear hK K
   (try simp only[Act.put,List.setIfInBounds_toArray,List.set_cons_zero,List.set_cons_succ,List.getElem_toArray,List.getElem_cons_zero,List.getElem_cons_succ])
   refine tkI 9 ?_
   refine wpAnyH_ready (rs:=[10]) (by kernel_rfl) (by simp) ?_
   refine AllReadyH.cons (o:=_) rfl (fun K hK=>?_) AllReadyH.nil
   go_simp
   clear hHeld
   have hb3:Bel wA (w5.alloc (.cells #[.string x1_0,.slice A6 x1_1.length c6,.int .i64 x1_2] 71)):=bl
   have hown:=OwnD.lit1 (k:=3) w5 71 (TRecordType.own_mk g1_0 HR6.out g1_2) rfl HN6.out
   obtain⟨nw3,hsr3⟩:=hown.src
   have HSR3:=hide hsr3
   clear hown hsr3
   have HO7:=hide (HOA.out.bel hb3)
   refine hK.out _ _ ?_ (fun hHeld=>?_)
   ·
    exact⟨(hb3.box wr.heap.size hlB _).trans k0,(hb3.box wr.heap.size hlB _).trans k1,(hb3.box wr.heap.size hlB _).trans k2⟩
   clear hK K
   (try simp only[Act.put,List.setIfInBounds_toArray,List.set_cons_zero,List.set_cons_succ,List.getElem_toArray,List.getElem_cons_zero,List.getElem_cons_succ])
   refine wpAnyH_ready (rs:=[11]) (by kernel_rfl) (by simp) ?_
   refine AllReadyH.cons (o:=_) rfl (fun K hK=>?_) AllReadyH.nil
   rw[if_pos (by rfl)]
   refine wp_append_D (.tmp 13) (.tmp 23) 25 rfl 71 ir (.agg #[.string ByteArray.empty,.slice none 0 0,.int .i64 0]) 3 48 Tryd.underlying25 hir zr0 zr1 zr2 (by decide) (by decide) HO7.out HSR3.out 1 rfl rfl (fun b hb hm=>by have h1:=HOA.out.lt b hb;have h2:=HK6.out b hm;omega) (by rw[List.length_map,List.length_take];omega) (by rw[List.length_map,List.length_take];unfold maxLen;omega) fun v8 w8 hO8 hg8 hw8=>?_
   have hb8:Bel w w8:=Below.grown (Bel.trans hbA hb3) hg8 (Bel.trans hbA hb3).size (fun k hk=>HB.out k (Or.inl hk))
   have hne:v.ownBlock≠some wr.heap.size:=fun q=>by have:=HO.out.lt _ (Or.inl q);omega
   have hz3:=hb3.size
   have e8:=hg8.block wr.heap.size (by omega) (fun q=>hne q.symm)
   refine hK.out _ _ ?_ (fun hHeld=>?_)
   ·
    exact⟨(World.cell?_of_block e8).trans ((hb3.box wr.heap.size hlB _).trans k0),(World.cell?_of_block e8).trans ((hb3.box wr.heap.size hlB _).trans k1),(World.cell?_of_block e8).trans ((hb3.box wr.heap.size hlB _).trans k2)⟩
   clear hK K
   (try simp only[Act.put,List.setIfInBounds_toArray,List.set_cons_zero,List.set_cons_succ,List.getElem_toArray,List.getElem_cons_zero,List.getElem_cons_succ])
   refine tkI 12 ?_
   refine wpAnyH_done (by kernel_rfl) ?_ _
   clear hHeld
   have HO9:=hide (show OwnD w8 71 3 v8 (L++L6) ((xs.take (i+1)).map TRecordType.D) by rw[take_D TRecordType.D h,HX1.out];exact hO8)
   have hz8:=hbA.size
   have HB9:=hide (show ∀b,Blk v8 (L++L6) b→w.heap.size≤b from fun b hb=>hb.elim (fun q=>(hw8 b q).elim (fun q=>HB.out b (Or.inl q)) (fun q=>by have:=(Bel.trans hbA hb3).size;omega)) (fun q=>(List.mem_append.1 q).elim (fun q=>HB.out b (Or.inr q)) (fun q=>by have:=HK6.out b q;omega)))
   clear hO8 hg8 hw8 e8
   go_wp2_with (fail)
   all_goals go_roundw
   case rel=>exact⟨i+1,_,_,rfl,by go_num,by omega,hide (HO9.out.bel bl),hide HB9.out,hide (Bel.trans hb8 bl)⟩
   case measure=>simp[intOf];omega
  ·
   skip
   have hdc:decide ((i:Int)<(xs.length:Int))=false:=by simp;omega
   have HO9:=hide (show OwnD wr 71 3 v L (xs.map TRecordType.D) by have:=HO.out;rw[List.take_of_length_le (by omega)]at this;exact this)
   obtain⟨A9,n9,c9,rfl⟩:∃A9 n9 c9,v=.slice A9 n9 c9:=by obtain⟨A0,c0,L0,hv0,_⟩:=HO.out.ownRow;exact⟨_,_,_,hv0⟩
   go_wp2_with (fail)
   all_goals
    go_returns
    exact⟨_,L,rfl,HO9.out.bel bl,HB.out,Bel.trans HBR.out bl⟩
end Go.Proofs.YtoikhhnmbbbjjaaDoor
namespace Go.Proofs.YtoikhhnmbbbjjaaDoor
set_option linter.unusedVariables false
set_option linter.unusedSimpArgs false
set_option maxRecDepth 100000
open Go.RowKit
theorem set_block {w:World} {b b':Nat} (o:Nat) (u:Value) (hn:b'≠b):(w.setCell ⟨b',o,none⟩ u).heap[b]?=w.heap[b]?:=by
 unfold World.setCell
 split
 all_goals
  show (w.heap.modify b' _)[b]?=_
  rw[Array.getElem?_modify,if_neg hn]
theorem wpList_namedF {P:Program} {ops:Array Oper} {Q:Exit→Act→World→Prop} {l:List Oper} {a:Act} {W:World} (h:∀wz,wz=W→wpList P ops Q l a wz):wpList P ops Q l a W:=h W rfl
def SB (w:World) (b:Nat) (v0 v1 v2 v3 v4 v5 v6 v7 v8 v9 v10 v11 v12:Value):Prop:=b<w.heap.size∧(∀o,w.frozen? ⟨b,o,none⟩=false)∧w.cell? ⟨b,0,none⟩=some v0∧w.cell? ⟨b,1,none⟩=some v1∧w.cell? ⟨b,2,none⟩=some v2∧w.cell? ⟨b,3,none⟩=some v3∧w.cell? ⟨b,4,none⟩=some v4∧w.cell? ⟨b,5,none⟩=some v5∧w.cell? ⟨b,6,none⟩=some v6∧w.cell? ⟨b,7,none⟩=some v7∧w.cell? ⟨b,8,none⟩=some v8∧w.cell? ⟨b,9,none⟩=some v9∧w.cell? ⟨b,10,none⟩=some v10∧w.cell? ⟨b,11,none⟩=some v11∧w.cell? ⟨b,12,none⟩=some v12
section
variable {w w':World} {b:Nat} {v0 v1 v2 v3 v4 v5 v6 v7 v8 v9 v10 v11 v12:Value}
theorem SB.block (h:SB w b v0 v1 v2 v3 v4 v5 v6 v7 v8 v9 v10 v11 v12) (hs:w.heap.size≤w'.heap.size) (hb:w'.heap[b]?=w.heap[b]?):SB w' b v0 v1 v2 v3 v4 v5 v6 v7 v8 v9 v10 v11 v12:=by
 obtain⟨l,f,c0,c1,c2,c3,c4,c5,c6,c7,c8,c9,c10,c11,c12⟩:=h
 have e:∀o,w'.cell? ⟨b,o,none⟩=w.cell? ⟨b,o,none⟩:=fun o=>World.cell?_of_block hb
 exact⟨by omega,fun o=>(World.frozen?_of_block hb).trans (f o),(e 0).trans c0,(e 1).trans c1,(e 2).trans c2,(e 3).trans c3,(e 4).trans c4,(e 5).trans c5,(e 6).trans c6,(e 7).trans c7,(e 8).trans c8,(e 9).trans c9,(e 10).trans c10,(e 11).trans c11,(e 12).trans c12⟩
theorem SB.on (h:SB w b v0 v1 v2 v3 v4 v5 v6 v7 v8 v9 v10 v11 v12) (k:Bel w w'):SB w' b v0 v1 v2 v3 v4 v5 v6 v7 v8 v9 v10 v11 v12:=h.block k.size (Below.block k b h.1)
theorem SB.new (w:World) (t:TypeId):SB (w.alloc (.cells #[v0,v1,v2,v3,v4,v5,v6,v7,v8,v9,v10,v11,v12] t)) w.heap.size v0 v1 v2 v3 v4 v5 v6 v7 v8 v9 v10 v11 v12 :=
 ⟨by simp,fun o=>by simp,by simp,by simp,by simp,by simp,by simp,by simp,by simp,by simp,by simp,by simp,by simp,by simp,by simp⟩
theorem SB.far (h:SB w b v0 v1 v2 v3 v4 v5 v6 v7 v8 v9 v10 v11 v12) {b':Nat} (o:Nat) (u:Value) (hn:b'≠b):SB (w.setCell ⟨b',o,none⟩ u) b v0 v1 v2 v3 v4 v5 v6 v7 v8 v9 v10 v11 v12 :=
 h.block (by simp) (set_block o u hn)
theorem SB.put0 (h:SB w b v0 v1 v2 v3 v4 v5 v6 v7 v8 v9 v10 v11 v12) (u:Value):SB (w.setCell ⟨b,0,none⟩ u) b u v1 v2 v3 v4 v5 v6 v7 v8 v9 v10 v11 v12:=by
 obtain⟨l,f,c0,c1,c2,c3,c4,c5,c6,c7,c8,c9,c10,c11,c12⟩:=h
 exact⟨by simpa using l,fun o=>by simp[f],by simp[c0,go_sem],by simp[c1,go_sem],by simp[c2,go_sem],by simp[c3,go_sem],by simp[c4,go_sem],by simp[c5,go_sem],by simp[c6,go_sem],by simp[c7,go_sem],by simp[c8,go_sem],by simp[c9,go_sem],by simp[c10,go_sem],by simp[c11,go_sem],by simp[c12,go_sem]⟩
theorem SB.put1 (h:SB w b v0 v1 v2 v3 v4 v5 v6 v7 v8 v9 v10 v11 v12) (u:Value):SB (w.setCell ⟨b,1,none⟩ u) b v0 u v2 v3 v4 v5 v6 v7 v8 v9 v10 v11 v12:=by
 obtain⟨l,f,c0,c1,c2,c3,c4,c5,c6,c7,c8,c9,c10,c11,c12⟩:=h
 exact⟨by simpa using l,fun o=>by simp[f],by simp[c0,go_sem],by simp[c1,go_sem],by simp[c2,go_sem],by simp[c3,go_sem],by simp[c4,go_sem],by simp[c5,go_sem],by simp[c6,go_sem],by simp[c7,go_sem],by simp[c8,go_sem],by simp[c9,go_sem],by simp[c10,go_sem],by simp[c11,go_sem],by simp[c12,go_sem]⟩
theorem SB.put2 (h:SB w b v0 v1 v2 v3 v4 v5 v6 v7 v8 v9 v10 v11 v12) (u:Value):SB (w.setCell ⟨b,2,none⟩ u) b v0 v1 u v3 v4 v5 v6 v7 v8 v9 v10 v11 v12:=by
 obtain⟨l,f,c0,c1,c2,c3,c4,c5,c6,c7,c8,c9,c10,c11,c12⟩:=h
 exact⟨by simpa using l,fun o=>by simp[f],by simp[c0,go_sem],by simp[c1,go_sem],by simp[c2,go_sem],by simp[c3,go_sem],by simp[c4,go_sem],by simp[c5,go_sem],by simp[c6,go_sem],by simp[c7,go_sem],by simp[c8,go_sem],by simp[c9,go_sem],by simp[c10,go_sem],by simp[c11,go_sem],by simp[c12,go_sem]⟩
theorem SB.put3 (h:SB w b v0 v1 v2 v3 v4 v5 v6 v7 v8 v9 v10 v11 v12) (u:Value):SB (w.setCell ⟨b,3,none⟩ u) b v0 v1 v2 u v4 v5 v6 v7 v8 v9 v10 v11 v12:=by
 obtain⟨l,f,c0,c1,c2,c3,c4,c5,c6,c7,c8,c9,c10,c11,c12⟩:=h
 exact⟨by simpa using l,fun o=>by simp[f],by simp[c0,go_sem],by simp[c1,go_sem],by simp[c2,go_sem],by simp[c3,go_sem],by simp[c4,go_sem],by simp[c5,go_sem],by simp[c6,go_sem],by simp[c7,go_sem],by simp[c8,go_sem],by simp[c9,go_sem],by simp[c10,go_sem],by simp[c11,go_sem],by simp[c12,go_sem]⟩
theorem SB.put4 (h:SB w b v0 v1 v2 v3 v4 v5 v6 v7 v8 v9 v10 v11 v12) (u:Value):SB (w.setCell ⟨b,4,none⟩ u) b v0 v1 v2 v3 u v5 v6 v7 v8 v9 v10 v11 v12:=by
 obtain⟨l,f,c0,c1,c2,c3,c4,c5,c6,c7,c8,c9,c10,c11,c12⟩:=h
 exact⟨by simpa using l,fun o=>by simp[f],by simp[c0,go_sem],by simp[c1,go_sem],by simp[c2,go_sem],by simp[c3,go_sem],by simp[c4,go_sem],by simp[c5,go_sem],by simp[c6,go_sem],by simp[c7,go_sem],by simp[c8,go_sem],by simp[c9,go_sem],by simp[c10,go_sem],by simp[c11,go_sem],by simp[c12,go_sem]⟩
theorem SB.put5 (h:SB w b v0 v1 v2 v3 v4 v5 v6 v7 v8 v9 v10 v11 v12) (u:Value):SB (w.setCell ⟨b,5,none⟩ u) b v0 v1 v2 v3 v4 u v6 v7 v8 v9 v10 v11 v12:=by
 obtain⟨l,f,c0,c1,c2,c3,c4,c5,c6,c7,c8,c9,c10,c11,c12⟩:=h
 exact⟨by simpa using l,fun o=>by simp[f],by simp[c0,go_sem],by simp[c1,go_sem],by simp[c2,go_sem],by simp[c3,go_sem],by simp[c4,go_sem],by simp[c5,go_sem],by simp[c6,go_sem],by simp[c7,go_sem],by simp[c8,go_sem],by simp[c9,go_sem],by simp[c10,go_sem],by simp[c11,go_sem],by simp[c12,go_sem]⟩
theorem SB.put6 (h:SB w b v0 v1 v2 v3 v4 v5 v6 v7 v8 v9 v10 v11 v12) (u:Value):SB (w.setCell ⟨b,6,none⟩ u) b v0 v1 v2 v3 v4 v5 u v7 v8 v9 v10 v11 v12:=by
 obtain⟨l,f,c0,c1,c2,c3,c4,c5,c6,c7,c8,c9,c10,c11,c12⟩:=h
 exact⟨by simpa using l,fun o=>by simp[f],by simp[c0,go_sem],by simp[c1,go_sem],by simp[c2,go_sem],by simp[c3,go_sem],by simp[c4,go_sem],by simp[c5,go_sem],by simp[c6,go_sem],by simp[c7,go_sem],by simp[c8,go_sem],by simp[c9,go_sem],by simp[c10,go_sem],by simp[c11,go_sem],by simp[c12,go_sem]⟩
theorem SB.put7 (h:SB w b v0 v1 v2 v3 v4 v5 v6 v7 v8 v9 v10 v11 v12) (u:Value):SB (w.setCell ⟨b,7,none⟩ u) b v0 v1 v2 v3 v4 v5 v6 u v8 v9 v10 v11 v12:=by
 obtain⟨l,f,c0,c1,c2,c3,c4,c5,c6,c7,c8,c9,c10,c11,c12⟩:=h
 exact⟨by simpa using l,fun o=>by simp[f],by simp[c0,go_sem],by simp[c1,go_sem],by simp[c2,go_sem],by simp[c3,go_sem],by simp[c4,go_sem],by simp[c5,go_sem],by simp[c6,go_sem],by simp[c7,go_sem],by simp[c8,go_sem],by simp[c9,go_sem],by simp[c10,go_sem],by simp[c11,go_sem],by simp[c12,go_sem]⟩
theorem SB.put8 (h:SB w b v0 v1 v2 v3 v4 v5 v6 v7 v8 v9 v10 v11 v12) (u:Value):SB (w.setCell ⟨b,8,none⟩ u) b v0 v1 v2 v3 v4 v5 v6 v7 u v9 v10 v11 v12:=by
 obtain⟨l,f,c0,c1,c2,c3,c4,c5,c6,c7,c8,c9,c10,c11,c12⟩:=h
 exact⟨by simpa using l,fun o=>by simp[f],by simp[c0,go_sem],by simp[c1,go_sem],by simp[c2,go_sem],by simp[c3,go_sem],by simp[c4,go_sem],by simp[c5,go_sem],by simp[c6,go_sem],by simp[c7,go_sem],by simp[c8,go_sem],by simp[c9,go_sem],by simp[c10,go_sem],by simp[c11,go_sem],by simp[c12,go_sem]⟩
theorem SB.put9 (h:SB w b v0 v1 v2 v3 v4 v5 v6 v7 v8 v9 v10 v11 v12) (u:Value):SB (w.setCell ⟨b,9,none⟩ u) b v0 v1 v2 v3 v4 v5 v6 v7 v8 u v10 v11 v12:=by
 obtain⟨l,f,c0,c1,c2,c3,c4,c5,c6,c7,c8,c9,c10,c11,c12⟩:=h
 exact⟨by simpa using l,fun o=>by simp[f],by simp[c0,go_sem],by simp[c1,go_sem],by simp[c2,go_sem],by simp[c3,go_sem],by simp[c4,go_sem],by simp[c5,go_sem],by simp[c6,go_sem],by simp[c7,go_sem],by simp[c8,go_sem],by simp[c9,go_sem],by simp[c10,go_sem],by simp[c11,go_sem],by simp[c12,go_sem]⟩
theorem SB.put10 (h:SB w b v0 v1 v2 v3 v4 v5 v6 v7 v8 v9 v10 v11 v12) (u:Value):SB (w.setCell ⟨b,10,none⟩ u) b v0 v1 v2 v3 v4 v5 v6 v7 v8 v9 u v11 v12:=by
 obtain⟨l,f,c0,c1,c2,c3,c4,c5,c6,c7,c8,c9,c10,c11,c12⟩:=h
 exact⟨by simpa using l,fun o=>by simp[f],by simp[c0,go_sem],by simp[c1,go_sem],by simp[c2,go_sem],by simp[c3,go_sem],by simp[c4,go_sem],by simp[c5,go_sem],by simp[c6,go_sem],by simp[c7,go_sem],by simp[c8,go_sem],by simp[c9,go_sem],by simp[c10,go_sem],by simp[c11,go_sem],by simp[c12,go_sem]⟩
theorem SB.put11 (h:SB w b v0 v1 v2 v3 v4 v5 v6 v7 v8 v9 v10 v11 v12) (u:Value):SB (w.setCell ⟨b,11,none⟩ u) b v0 v1 v2 v3 v4 v5 v6 v7 v8 v9 v10 u v12:=by
 obtain⟨l,f,c0,c1,c2,c3,c4,c5,c6,c7,c8,c9,c10,c11,c12⟩:=h
 exact⟨by simpa using l,fun o=>by simp[f],by simp[c0,go_sem],by simp[c1,go_sem],by simp[c2,go_sem],by simp[c3,go_sem],by simp[c4,go_sem],by simp[c5,go_sem],by simp[c6,go_sem],by simp[c7,go_sem],by simp[c8,go_sem],by simp[c9,go_sem],by simp[c10,go_sem],by simp[c11,go_sem],by simp[c12,go_sem]⟩
theorem SB.put12 (h:SB w b v0 v1 v2 v3 v4 v5 v6 v7 v8 v9 v10 v11 v12) (u:Value):SB (w.setCell ⟨b,12,none⟩ u) b v0 v1 v2 v3 v4 v5 v6 v7 v8 v9 v10 v11 u:=by
 obtain⟨l,f,c0,c1,c2,c3,c4,c5,c6,c7,c8,c9,c10,c11,c12⟩:=h
 exact⟨by simpa using l,fun o=>by simp[f],by simp[c0,go_sem],by simp[c1,go_sem],by simp[c2,go_sem],by simp[c3,go_sem],by simp[c4,go_sem],by simp[c5,go_sem],by simp[c6,go_sem],by simp[c7,go_sem],by simp[c8,go_sem],by simp[c9,go_sem],by simp[c10,go_sem],by simp[c11,go_sem],by simp[c12,go_sem]⟩
theorem SB.there (h:SB w b v0 v1 v2 v3 v4 v5 v6 v7 v8 v9 v10 v11 v12):w.there b 0 13:=by
 obtain⟨l,f,c0,c1,c2,c3,c4,c5,c6,c7,c8,c9,c10,c11,c12⟩:=h
 intro j hj
 rcases (show j=0∨j=1∨j=2∨j=3∨j=4∨j=5∨j=6∨j=7∨j=8∨j=9∨j=10∨j=11∨j=12 by omega)with rfl | rfl | rfl | rfl | rfl | rfl | rfl | rfl | rfl | rfl | rfl | rfl | rfl
 all_goals exact⟨by simp[c0,c1,c2,c3,c4,c5,c6,c7,c8,c9,c10,c11,c12],f _⟩
end
theorem infoVal:(Tryd.prog.info? 34).map (fun i=>(i.zero,i.size,i.bytes))=some (some (.agg #[.int .i64 0,.int .i64 0,.int .i64 0,.string ByteArray.empty,.int .i64 0,.int .i64 0]),6,56):=by kernel_rfl
end Go.Proofs.YtoikhhnmbbbjjaaDoor
namespace Go.Proofs.YtoikhhnmbbbjjaaDoor
set_option linter.unusedVariables false
set_option linter.unusedSimpArgs false
set_option maxRecDepth 100000
open Go.RowKit
theorem val_flat (cs:List TValue):∀ds∈cs.map TValue.D,∀d∈ds,d.flat:=by
 intro ds hds d hd
 obtain⟨⟨a,b,c,t,e,f⟩,-,rfl⟩:=List.mem_map.1 hds
 rw[TValue.D_mk]at hd
 simp only[List.mem_cons,List.not_mem_nil,or_false]at hd
 rcases hd with rfl | rfl | rfl | rfl | rfl | rfl <;> trivial
theorem act_flat (cs:List TActive):∀ds∈cs.map TActive.D,∀d∈ds,d.flat:=by
 intro ds hds d hd
 obtain⟨⟨a,b⟩,-,rfl⟩:=List.mem_map.1 hds
 rw[TActive.D_mk]at hd
 simp only[List.mem_cons,List.not_mem_nil,or_false]at hd
 rcases hd with rfl | rfl <;> trivial
theorem infoAct:(Tryd.prog.info? 53).map (fun i=>(i.zero,i.size,i.bytes))=some (some (.agg #[.int .i64 0,.int .i64 0]),2,16):=by kernel_rfl
theorem infoObj:(Tryd.prog.info? 42).map (fun i=>(i.zero,i.size,i.bytes))=some (some (.agg #[.int .i64 0,.int .i64 0,.int .i64 0,.slice none 0 0,.slice none 0 0]),5,72):=by kernel_rfl
structure ClS (w:World) (N:Nat) (wx:World) (b:Nat) (v0 v1 v2 v3 v4 v5 v6 v7 v8 v9 v10 v11 v12:Value) (l:List Ent):Prop where
 box:SB wx b v0 v1 v2 v3 v4 v5 v6 v7 v8 v9 v10 v11 v12
 ents:Ents N wx l
 bel:Bel w wx
 low:w.heap.size≤b∧b<N∧N≤wx.heap.size
section
variable {w wx wy:World} {N b:Nat} {v0 v1 v2 v3 v4 v5 v6 v7 v8 v9 v10 v11 v12:Value} {l:List Ent}
theorem ClS.on (h:ClS w N wx b v0 v1 v2 v3 v4 v5 v6 v7 v8 v9 v10 v11 v12 l) (k:Bel wx wy):ClS w N wy b v0 v1 v2 v3 v4 v5 v6 v7 v8 v9 v10 v11 v12 l:=⟨h.box.on k,h.ents.bel k,h.bel.trans k,h.low.1,h.low.2.1,Nat.le_trans h.low.2.2 k.size⟩
theorem ClS.next (h:ClS w N wx b v0 v1 v2 v3 v4 v5 v6 v7 v8 v9 v10 v11 v12 l) (hb:Bel wx wy) {E:TypeId} {k:Nat} {u:Value} {L:List Nat} {ds:List (List Dat)} (ho:OwnD wy E k u L ds) (hn:∀x,Blk u L x→wx.heap.size≤x) (o:Nat) {u0 u1 u2 u3 u4 u5 u6 u7 u8 u9 u10 u11 u12:Value} (hbx:SB (wy.setCell ⟨b,o,none⟩ u) b u0 u1 u2 u3 u4 u5 u6 u7 u8 u9 u10 u11 u12):ClS w N (wy.setCell ⟨b,o,none⟩ u) b u0 u1 u2 u3 u4 u5 u6 u7 u8 u9 u10 u11 u12 (l++[⟨E,k,u,L,ds⟩]):=by
 refine⟨hbx,(h.ents.snoc hb (e:=⟨E,k,u,L,ds⟩) ho h.low.2.2 hn).far h.low.2.1 o u,Below.setCell (h.bel.trans hb) h.low.1 u,h.low.1,h.low.2.1,?_⟩
 have h1:=hb.size
 have h2:=h.low.2.2
 simp only[World.size_setCell]
 omega
end
end Go.Proofs.YtoikhhnmbbbjjaaDoor
namespace Go.Proofs.YtoikhhnmbbbjjaaDoor
set_option linter.unusedVariables false
set_option linter.unusedSimpArgs false
set_option maxRecDepth 100000
open Go.RowKit
mutual
def Dat.ln:Dat→Nat
 | .int _=>0
 | .str _=>0
 | .bool _=>0
 | .row _ xs=>xs.length+Dat.lnR xs
def Dat.lnR:List (List Dat)→Nat
 | []=>0
 | ds :: r=>Dat.lnL ds+Dat.lnR r
def Dat.lnL:List Dat→Nat
 | []=>0
 | d :: r=>Dat.ln d+Dat.lnL r
end
theorem lnR_le_of {α:Type} (f:α→List Dat) (m:Nat):∀l:List α,(∀x,x∈l→Dat.lnL (f x)≤m)→Dat.lnR (l.map f)≤l.length*m
 | [],_=>by simp[Dat.lnR]
 | x :: r,h=>by
  have h1:=h x (by simp)
  have h2:=lnR_le_of f m r (fun y hy=>h y (by simp[hy]))
  have h3:(r.length+1)*m=r.length*m+m:=Nat.succ_mul _ _
  simp only[List.map_cons,Dat.lnR,List.length_cons]
  omega
end Go.Proofs.YtoikhhnmbbbjjaaDoor
namespace Go.Proofs.YtoikhhnmbbbjjaaDoor
set_option linter.unusedVariables false
set_option linter.unusedSimpArgs false
set_option maxRecDepth 100000
open Go.RowKit
abbrev ValsC (f:FuncId):Prop:=∀(xs:List TValue) (S:Nat→Prop) (w:World) (A:Option Addr) (c:Nat),Row w S 6 A c (xs.map TValue.D)→xs.length≤1048576 →
 Calls Tryd.prog f #[.slice A xs.length c] w fun e w'=>∃v,e=.returned v∧OwnD w' 34 6 v [] (xs.map TValue.D)∧(∀b,Blk v [] b→w.heap.size≤b)∧Bel w w'
theorem copy_bel {w w9:World} {T:TypeId} {v9:Value} (hg:(w.alloc (.cells #[] T)).grownBy w9 (some w.heap.size)) (hw:∀b,v9.ownBlock=some b→(Value.slice (some ⟨w.heap.size,0,none⟩) 0 0).ownBlock=some b∨w.heap.size+1≤b):Bel w w9∧∀b,Blk v9 [] b→w.heap.size≤b:=by
 refine⟨Below.grown (show Bel w (w.alloc (.cells #[] T))from bl) hg (by simp) (fun k hk=>by have:=Option.some.inj hk;omega),fun b hb=>?_⟩
 rcases hb with hb | hb
 ·
  rcases hw b hb with e | e
  ·
   have:=Option.some.inj (show some w.heap.size=some b from e);omega
  ·
   omega
 ·
  cases hb
def OB (w:World) (b:Nat) (v0 v1 v2 v3 v4:Value):Prop:=b<w.heap.size∧(∀o,w.frozen? ⟨b,o,none⟩=false)∧w.cell? ⟨b,0,none⟩=some v0∧w.cell? ⟨b,1,none⟩=some v1∧w.cell? ⟨b,2,none⟩=some v2∧w.cell? ⟨b,3,none⟩=some v3∧w.cell? ⟨b,4,none⟩=some v4
section
variable {w w':World} {b:Nat} {v0 v1 v2 v3 v4:Value}
theorem OB.block (h:OB w b v0 v1 v2 v3 v4) (hs:w.heap.size≤w'.heap.size) (hb:w'.heap[b]?=w.heap[b]?):OB w' b v0 v1 v2 v3 v4:=by
 obtain⟨l,f,c0,c1,c2,c3,c4⟩:=h
 have e:∀o,w'.cell? ⟨b,o,none⟩=w.cell? ⟨b,o,none⟩:=fun o=>World.cell?_of_block hb
 exact⟨by omega,fun o=>(World.frozen?_of_block hb).trans (f o),(e 0).trans c0,(e 1).trans c1,(e 2).trans c2,(e 3).trans c3,(e 4).trans c4⟩
theorem OB.on (h:OB w b v0 v1 v2 v3 v4) (k:Bel w w'):OB w' b v0 v1 v2 v3 v4:=h.block k.size (Below.block k b h.1)
theorem OB.new (w:World) (t:TypeId):OB (w.alloc (.cells #[v0,v1,v2,v3,v4] t)) w.heap.size v0 v1 v2 v3 v4 :=
 ⟨by simp,fun o=>by simp,by simp,by simp,by simp,by simp,by simp⟩
theorem OB.put0 (h:OB w b v0 v1 v2 v3 v4) (u:Value):OB (w.setCell ⟨b,0,none⟩ u) b u v1 v2 v3 v4:=by
 obtain⟨l,f,c0,c1,c2,c3,c4⟩:=h
 exact⟨by simpa using l,fun o=>by simp[f],by simp[c0,go_sem],by simp[c1,go_sem],by simp[c2,go_sem],by simp[c3,go_sem],by simp[c4,go_sem]⟩
theorem OB.put1 (h:OB w b v0 v1 v2 v3 v4) (u:Value):OB (w.setCell ⟨b,1,none⟩ u) b v0 u v2 v3 v4:=by
 obtain⟨l,f,c0,c1,c2,c3,c4⟩:=h
 exact⟨by simpa using l,fun o=>by simp[f],by simp[c0,go_sem],by simp[c1,go_sem],by simp[c2,go_sem],by simp[c3,go_sem],by simp[c4,go_sem]⟩
theorem OB.put2 (h:OB w b v0 v1 v2 v3 v4) (u:Value):OB (w.setCell ⟨b,2,none⟩ u) b v0 v1 u v3 v4:=by
 obtain⟨l,f,c0,c1,c2,c3,c4⟩:=h
 exact⟨by simpa using l,fun o=>by simp[f],by simp[c0,go_sem],by simp[c1,go_sem],by simp[c2,go_sem],by simp[c3,go_sem],by simp[c4,go_sem]⟩
theorem OB.put3 (h:OB w b v0 v1 v2 v3 v4) (u:Value):OB (w.setCell ⟨b,3,none⟩ u) b v0 v1 v2 u v4:=by
 obtain⟨l,f,c0,c1,c2,c3,c4⟩:=h
 exact⟨by simpa using l,fun o=>by simp[f],by simp[c0,go_sem],by simp[c1,go_sem],by simp[c2,go_sem],by simp[c3,go_sem],by simp[c4,go_sem]⟩
theorem OB.put4 (h:OB w b v0 v1 v2 v3 v4) (u:Value):OB (w.setCell ⟨b,4,none⟩ u) b v0 v1 v2 v3 u:=by
 obtain⟨l,f,c0,c1,c2,c3,c4⟩:=h
 exact⟨by simpa using l,fun o=>by simp[f],by simp[c0,go_sem],by simp[c1,go_sem],by simp[c2,go_sem],by simp[c3,go_sem],by simp[c4,go_sem]⟩
end
structure ClF (w:World) (N:Nat) (wx:World) (b q r:Nat) (v0 v1 v2 v3 v4 v5 v6 v7 v8 v9 v10 v11 v12:Value) (s0 s1 s2 s3 s4 s5 s6 s7 s8 s9 s10 s11 s12:Value) (l:List Ent):Prop where
 cl:ClS w N wx b v0 v1 v2 v3 v4 v5 v6 v7 v8 v9 v10 v11 v12 l
 sb:SB wx q s0 s1 s2 s3 s4 s5 s6 s7 s8 s9 s10 s11 s12
 rb:SB wx r (.slice none 0 0) (.slice none 0 0) (.slice none 0 0) (.slice none 0 0) (.string ByteArray.empty) (.int .i64 0) (.slice none 0 0) (.slice none 0 0) (.slice none 0 0) (.bool false) (.int .i64 0) (.int .i64 0) (.int .i64 0)
 ne:q≠b∧r≠b∧q<N∧r<N∧w.heap.size≤r
section
variable {w wx wy:World} {N b q r:Nat} {v0 v1 v2 v3 v4 v5 v6 v7 v8 v9 v10 v11 v12 s0 s1 s2 s3 s4 s5 s6 s7 s8 s9 s10 s11 s12:Value} {l:List Ent} {e:Ent}
theorem ClF.on (h:ClF w N wx b q r v0 v1 v2 v3 v4 v5 v6 v7 v8 v9 v10 v11 v12 s0 s1 s2 s3 s4 s5 s6 s7 s8 s9 s10 s11 s12 l) (k:Bel wx wy):ClF w N wy b q r v0 v1 v2 v3 v4 v5 v6 v7 v8 v9 v10 v11 v12 s0 s1 s2 s3 s4 s5 s6 s7 s8 s9 s10 s11 s12 l:=⟨h.cl.on k,h.sb.on k,h.rb.on k,h.ne⟩
theorem ClF.next (h:ClF w N wx b q r v0 v1 v2 v3 v4 v5 v6 v7 v8 v9 v10 v11 v12 s0 s1 s2 s3 s4 s5 s6 s7 s8 s9 s10 s11 s12 l) (hb:Bel wx wy) {E:TypeId} {k:Nat} {u:Value} {L:List Nat} {ds:List (List Dat)} (ho:OwnD wy E k u L ds) (hn:∀x,Blk u L x→wx.heap.size≤x) (o:Nat) {u0 u1 u2 u3 u4 u5 u6 u7 u8 u9 u10 u11 u12:Value} (hbx:SB (wy.setCell ⟨b,o,none⟩ u) b u0 u1 u2 u3 u4 u5 u6 u7 u8 u9 u10 u11 u12):ClF w N (wy.setCell ⟨b,o,none⟩ u) b q r u0 u1 u2 u3 u4 u5 u6 u7 u8 u9 u10 u11 u12 s0 s1 s2 s3 s4 s5 s6 s7 s8 s9 s10 s11 s12 (l++[⟨E,k,u,L,ds⟩]) :=
 ⟨h.cl.next hb ho hn o hbx,(h.sb.on hb).far o u (fun e=>h.ne.1 e.symm),(h.rb.on hb).far o u (fun e=>h.ne.2.1 e.symm),h.ne⟩
theorem ClF.grow (h:ClF w N wx b q r v0 v1 v2 v3 v4 v5 v6 v7 v8 v9 v10 v11 v12 s0 s1 s2 s3 s4 s5 s6 s7 s8 s9 s10 s11 s12 (l++[e])) {wm:World} (hm:Bel wx wm) (hg:wm.grownBy wy e.v.ownBlock) {e':Ent} (ho:OwnD wy e'.E e'.k e'.v e'.L e'.ds) (hn:∀x,Blk e'.v e'.L x→Blk e.v e.L x∨wx.heap.size≤x) :
  SB wy b v0 v1 v2 v3 v4 v5 v6 v7 v8 v9 v10 v11 v12∧∀(o:Nat) (u:Value) {u0 u1 u2 u3 u4 u5 u6 u7 u8 u9 u10 u11 u12:Value},SB (wy.setCell ⟨b,o,none⟩ u) b u0 u1 u2 u3 u4 u5 u6 u7 u8 u9 u10 u11 u12→ClF w N (wy.setCell ⟨b,o,none⟩ u) b q r u0 u1 u2 u3 u4 u5 u6 u7 u8 u9 u10 u11 u12 s0 s1 s2 s3 s4 s5 s6 s7 s8 s9 s10 s11 s12 (l++[e']):=by
 have hlow:∀k,e.v.ownBlock=some k→N≤k:=fun k hk=>h.cl.ents.low e (by simp) k (Or.inl hk)
 have hN:=h.cl.low
 have hs:=hm.size
 have hgs:=hg.size
 have old:∀k,k<N→k<wx.heap.size→wy.heap[k]?=wx.heap[k]?:=fun k hk hl=>(hg.block k (by omega) (fun q=>by have:=hlow k q.symm;omega)).trans (Below.block hm k hl)
 have hbl:=h.cl.box.1
 have hql:=h.sb.1
 have hrl:=h.rb.1
 have B9:=h.cl.box.block (by omega) (old b hN.2.1 hbl)
 have hB:Bel w wy:=⟨hg.os.trans (hm.os.trans h.cl.bel.os),hg.tape.trans (hm.tape.trans h.cl.bel.tape),hg.output.trans (hm.output.trans h.cl.bel.output),by have:=h.cl.bel.size;omega,fun k hk=>(old k (by omega) (by omega)).trans (Below.block h.cl.bel k hk)⟩
 refine⟨B9,fun o u _ _ _ _ _ _ _ _ _ _ _ _ _ hbx=>⟨⟨hbx,(h.cl.ents.grow hm hg hN.2.2 ho hn).far hN.2.1 o u,Below.setCell hB hN.1 u,hN.1,hN.2.1,by simp only[World.size_setCell];omega⟩,(h.sb.block (by omega) (old q h.ne.2.2.1 hql)).far o u (fun e=>h.ne.1 e.symm),(h.rb.block (by omega) (old r h.ne.2.2.2.1 hrl)).far o u (fun e=>h.ne.2.1 e.symm),h.ne⟩⟩
end
theorem Ents.weak {N M:Nat} {w:World} {l:List Ent} (h:Ents N w l) (hm:M≤N):Ents M w l:=⟨h.own,fun e he b hb=>Nat.le_trans hm (h.low e he b hb),h.sep⟩
def TObject.its:TObject→List TValue | .mk _ _ _ i _=>i
def TObject.kys:TObject→List TValue | .mk _ _ _ _ k=>k
theorem wt_objs:∀(l:List TObject) (i:Nat) (h:i<l.length),l[i].its.length+l[i].kys.length≤Dat.lnR (l.map TObject.D)
 | .mk a b c d e :: r,0,_=>by
  simp only[List.getElem_cons_zero,TObject.its,TObject.kys,List.map_cons,Dat.lnR,TObject.D_mk,Dat.lnL,Dat.ln,List.length_map]
  omega
 | x :: r,i+1,h=>by
  have:=wt_objs r i (by simpa using h)
  simp only[List.getElem_cons_succ,List.map_cons,Dat.lnR]
  omega
theorem wt_recs:∀(l:List TRecordType) (i:Nat) (h:i<l.length),l[i].fl.length≤Dat.lnR (l.map TRecordType.D)
 | .mk a b c :: r,0,_=>by
  simp only[List.getElem_cons_zero,TRecordType.fl,List.map_cons,Dat.lnR,TRecordType.D_mk,Dat.lnL,Dat.ln,List.length_map]
  omega
 | x :: r,i+1,h=>by
  have:=wt_recs r i (by simpa using h)
  simp only[List.getElem_cons_succ,List.map_cons,Dat.lnR]
  omega
def CloneP (w:World) (x0:List ByteArray) (x1:List TRecordType) (x2:List TObject) (x3:List TValue) (x4:ByteArray) (x5:Int) (x6 x7:List ByteArray) (x8:List TActive) (x9:Bool) (x10 x11 x12:Int) (e:Ending) (w':World):Prop :=
 ∃(v0 v1 v2 v3 v6 v7 v8:Value) (L0 L1 L2 L3 L6 L7 L8:List Nat),e=.returned (.agg #[v0,v1,v2,v3,.string x4,.int .i64 x5,v6,v7,v8,.bool x9,.int .i64 x10,.int .i64 x11,.int .i64 x12]) ∧
  Ents w.heap.size w' [⟨9,1,v0,L0,x0.map (fun x=>[Dat.str x])⟩,⟨71,3,v1,L1,x1.map TRecordType.D⟩,⟨42,5,v2,L2,x2.map TObject.D⟩,⟨34,6,v3,L3,x3.map TValue.D⟩,⟨9,1,v6,L6,x6.map (fun x=>[Dat.str x])⟩,⟨9,1,v7,L7,x7.map (fun x=>[Dat.str x])⟩,⟨53,2,v8,L8,x8.map TActive.D⟩]∧Bel w w'
abbrev CloneC (f:FuncId):Prop:=∀(x0:List ByteArray) (x1:List TRecordType) (x2:List TObject) (x3:List TValue) (x4:ByteArray) (x5:Int) (x6 x7:List ByteArray) (x8:List TActive) (x9:Bool) (x10 x11 x12:Int) (S:Nat→Prop) (w:World) (vs:List Value),
 Dat.HoldVals w S (TStore.mk x0 x1 x2 x3 x4 x5 x6 x7 x8 x9 x10 x11 x12).D vs→Dat.lnL (TStore.mk x0 x1 x2 x3 x4 x5 x6 x7 x8 x9 x10 x11 x12).D≤1048576→Calls Tryd.prog f #[.agg vs.toArray] w (CloneP w x0 x1 x2 x3 x4 x5 x6 x7 x8 x9 x10 x11 x12)
set_option maxHeartbeats 1000000 in
theorem specVals_any:ValsC 34:=by
 intro xs S w A c hR hx
 have HR:=hide hR
 have hlc:=hR.1
 have hcm:=hR.2.1
 simp only[List.length_map]at hlc
 unfold maxLen at hcm
 clear hR
 obtain⟨iv,hiv,zv0,zv1,zv2⟩:=info_parts infoVal
 have HO5:=hide (OwnD.lit0 w 34 6)
 obtain⟨nw,hsr⟩:=Row.src (val_flat xs) (Row.bel (show Bel w (w.alloc (.cells #[] 34))from bl) HR.out)
 rw[List.length_map]at hsr
 have HSR:=hide hsr
 clear hsr
 go_enter Tryd.func34,Tryd.ntmps34
 go_wp2_with (at_builtin;refine wpList_append_D rfl (.tmp 3) (.tmp 4) 27 rfl 34 iv (.agg #[.int .i64 0,.int .i64 0,.int .i64 0,.string ByteArray.empty,.int .i64 0,.int .i64 0]) 6 56 Tryd.underlying27 hiv zv0 zv1 zv2 (by decide) (by decide) HO5.out HSR.out c rfl rfl (fun b _ h=>by cases h) ?c2 ?c3 ?_)
 case c2=>simp only[List.length_nil];omega
 case c3=>simp only[List.length_nil];unfold maxLen;omega
 intro v9 w9 hO9 hg9 hw9
 have hq:=copy_bel hg9 hw9
 have HQ:=hide hq
 have HO9:=hide (show OwnD w9 34 6 v9 [] (xs.map TValue.D)from hO9)
 clear hO9 hg9 hw9 hq
 go_wp2_with (fail)
 all_goals
  go_returns
  exact⟨v9,rfl,HO9.out,HQ.out.2,HQ.out.1⟩
end Go.Proofs.YtoikhhnmbbbjjaaDoor
namespace Go.Proofs.YtoikhhnmbbbjjaaDoor
set_option linter.unusedVariables false
set_option linter.unusedSimpArgs false
set_option maxRecDepth 100000
open Go.RowKit
def waitsFor (ops:Array Oper) (j:Nat):List Nat:=match ops[j]? with
 | some o=>(o.after.toList.filter (fun e=>Region.binds .any e)).map (·.on)
 | none=>[]
def aheadOf (ops:Array Oper):Nat→List Nat→List Nat
 | 0,s=>s
 | f+1,s=>aheadOf ops f (s++s.flatMap (waitsFor ops)).eraseDups
def putF (u:Nat→Value):List (Option Tmp)→Nat→Act→Act
 | [],_,a=>a
 | d :: r,k,a=>putF u r (k+1) (a.put d (u k))
def idxD:List (Option Tmp)→Nat→List (Nat × Option Tmp)
 | [],_=>[]
 | d :: r,k=>(k,d) :: idxD r (k+1)
def putP (u:Nat→Value):List (Nat × Option Tmp)→Act→Act
 | [],a=>a
 | (k,d) :: r,a=>putP u r (a.put d (u k))
theorem putP_idx (u:Nat→Value):∀(l:List (Option Tmp)) (k:Nat) (a:Act),putP u (idxD l k) a=putF u l k a
 | [],_,_=>rfl
 | d :: r,k,a=>putP_idx u r (k+1) (a.put d (u k))
def dsts (ops:Array Oper):List (Option Tmp):=ops.toList.map (·.dst)
def updF (u:Nat→Value) (i:Nat) (v:Value):Nat→Value:=fun j=>if j=i then v else u j
def apartD:List (Option Tmp)→Bool
 | []=>true
 | d :: r=>(d.isNone||r.all (fun e=>e != d))&&apartD r
def formOk (ops:Array Oper) (m:Nat):Bool :=
 (List.range ops.size).all (fun j=>(waitsFor ops j).all (fun k=>decide (k<j)))&&apartD (dsts ops)&&(List.range m).all (fun j=>(aheadOf ops 12 [m]).contains j)&&decide (ops.size=m+1)&&ops.toList.all (fun o=>o.guard.isNone)
theorem putF_congr {u u':Nat→Value}:∀(l:List (Option Tmp)) (k:Nat) (a:Act),(∀j,k≤j→u j=u' j)→putF u l k a=putF u' l k a
 | [],_,_,_=>rfl
 | d :: r,k,a,h=>by
  simp only[putF]
  rw[h k (Nat.le_refl k)]
  exact putF_congr r (k+1) _ (fun j hj=>h j (by omega))
theorem put_put (a:Act) (d:Option Tmp) (x v:Value):(a.put d x).put d v=a.put d v:=by
 cases d with
 | none=>rfl
 | some t=>simp[Act.put]
theorem putF_put {u:Nat→Value} {d:Option Tmp} (v:Value):∀(l:List (Option Tmp)) (k:Nat) (a:Act),(d.isNone||l.all (fun e=>e != d))=true→(putF u l k a).put d v=putF u l k (a.put d v)
 | [],_,_,_=>rfl
 | e :: r,k,a,h=>by
  simp only[putF]
  have hr:(d.isNone||r.all (fun e=>e != d))=true:=by
   cases hd:d.isNone
   ·
    simp only[hd,Bool.false_or,List.all_cons,Bool.and_eq_true]at h ⊢
    exact h.2
   ·
    rfl
  rw[putF_put v r (k+1) _ hr]
  congr 1
  refine Act.put_comm a _ _ fun t ht hd=>?_
  subst hd
  simp[ht]at h
theorem putF_upd {u:Nat→Value} (v:Value):∀(l:List (Option Tmp)) (k i:Nat) (d:Option Tmp) (a:Act),apartD l=true→l[i]?=some d→(putF u l k a).put d v=putF (updF u (k+i) v) l k a
 | [],_,_,_,_,_,h=>by simp at h
 | e :: r,k,0,d,a,hp,h=>by
  obtain rfl:e=d:=by simpa using h
  simp only[apartD,Bool.and_eq_true]at hp
  simp only[putF]
  rw[putF_put v r (k+1) _ hp.1,put_put]
  have e2:updF u (k+0) v k=v:=by simp[updF]
  rw[e2]
  exact putF_congr r (k+1) _ (fun j hj=>by simp only[updF];rw[if_neg (by omega)])
 | e :: r,k,i+1,d,a,hp,h=>by
  simp only[apartD,Bool.and_eq_true]at hp
  simp only[putF]
  rw[putF_upd v r (k+1) i d _ hp.2 (by simpa using h),show k+1+i=k+(i+1) by omega]
  have e2:updF u (k+(i+1)) v k=u k:=by simp only[updF];rw[if_neg (by omega)]
  rw[e2]
theorem put_same (a:Act) (d:Option Tmp):a.put d ((d.map (fun t=>a.tmps.getD t undef)).getD undef)=a:=by
 cases d with
 | none=>rfl
 | some t =>
  simp only[Act.put,Option.map_some,Option.getD_some]
  congr 1
  refine Array.ext (by simp) fun i h1 h2=>?_
  rw[Array.getElem_setIfInBounds (by simpa using h2)]
  split
  ·
   rename_i e
   subst e
   simp[h2]
  ·
   rfl
theorem putF_same (a:Act):∀(l:List (Option Tmp)) (k:Nat) (u:Nat→Value),(∀i d,l[i]?=some d→u (k+i)=(d.map (fun t=>a.tmps.getD t undef)).getD undef)→putF u l k a=a
 | [],_,_,_=>rfl
 | d :: r,k,u,h=>by
  simp only[putF]
  have h0:=h 0 d (by simp)
  rw[Nat.add_zero]at h0
  rw[h0,put_same]
  exact putF_same a r (k+1) u (fun i e he=>by rw[show k+1+i=k+(i+1) by omega];exact h (i+1) e (by simpa using he))
theorem countP_lt {p p':Nat→Bool}:∀{l:List Nat} {i:Nat},i∈l→p i=true→p' i=false→(∀j,p' j=true→p j=true)→l.countP p'<l.countP p
 | x :: r,i,hm,h1,h2,h=>by
  rw[List.countP_cons,List.countP_cons]
  rcases List.mem_cons.1 hm with rfl | hm
  ·
   have:=List.countP_mono_left (l:=r) (fun j _ hj=>h j hj)
   simp only[h1,h2,if_true,Bool.false_eq_true,if_false]
   omega
  ·
   have:=countP_lt hm h1 h2 h
   cases q:p' x
   ·
    simp only[Bool.false_eq_true,if_false]
    split <;> omega
   ·
    simp only[h x q,if_true]
    omega
section
variable {P:Program} {ops:Array Oper} {Q:Exit→Act→World→Prop}
def ClosedL (ops:Array Oper) (listed:Array Bool):Prop:=∀j,listed.getD j false=true→∀k∈waitsFor ops j,listed.getD k false=true
theorem ahead_closed {listed:Array Bool} (hc:ClosedL ops listed):∀(f:Nat) (s:List Nat),(∀j∈s,listed.getD j false=true)→∀j∈aheadOf ops f s,listed.getD j false=true
 | 0,_,h,j,hj=>h j hj
 | f+1,s,h,j,hj=>ahead_closed hc f _ (fun i hi=>by
   rw[List.mem_eraseDups,List.mem_append]at hi
   rcases hi with hi | hi
   ·
    exact h i hi
   ·
    obtain⟨k,hk,hki⟩:=List.mem_flatMap.1 hi
    exact hc k (h k hk) i hki) j hj
theorem waits_ready {j:Nat} {listed:Array Bool} (h:j∈Region.ready .any ops listed):∀k∈waitsFor ops j,listed.getD k false=true:=by
 obtain⟨-,o,ho,hall⟩:=mem_ready.1 h
 intro k hk
 unfold waitsFor at hk
 rw[ho]at hk
 simp only[List.mem_map,List.mem_filter,Array.mem_toList_iff]at hk
 obtain⟨e,⟨he,hb⟩,rfl⟩:=hk
 exact hall e he hb
theorem getD_true_of {l:Array Bool} {j:Nat} (h:j<l.size) (d:Bool):l.getD j d=l[j]:=by simp[h]
theorem closed_set {listed:Array Bool} {i:Nat} (hc:ClosedL ops listed) (hr:i∈Region.ready .any ops listed):ClosedL ops (listed.setIfInBounds i true):=by
 intro j hj k hk
 refine getD_set_true ?_
 by_cases h:i=j
 ·
  subst h
  exact waits_ready hr k hk
 ·
  rw[getD_set_ne false h]at hj
  exact hc j hj k hk
theorem ready_nil {listed:Array Bool} (hw:∀j,j<ops.size→∀k∈waitsFor ops j,k<j) (hs:listed.size=ops.size) (hr:Region.ready .any ops listed=[]):∀(n j:Nat),j<n→j<ops.size→listed.getD j false=true
 | 0,_,h,_=>by omega
 | n+1,j,h,hj=>by
  cases hb:listed.getD j false with
  | true=>rfl
  | false =>
   exfalso
   have hm:j∈Region.ready .any ops listed:=by
    refine mem_ready.2 ⟨by rw[getD_true_of (by omega)]at hb ⊢;exact hb,ops[j],Array.getElem?_eq_getElem hj,fun e he hbn=>?_⟩
    have hk:e.on∈waitsFor ops j:=by
     unfold waitsFor
     rw[Array.getElem?_eq_getElem hj]
     exact List.mem_map.2 ⟨e,List.mem_filter.2 ⟨Array.mem_toList_iff.2 he,hbn⟩,rfl⟩
    have:=hw j hj _ hk
    exact ready_nil hw hs hr n e.on (by omega) (by omega)
   rw[hr]at hm
   cases hm
theorem g0_of {X Y:Prop} {b:Bool} (hG:X∨(Y∧b=false)) (h:b=true):X:=hG.resolve_right fun q=>by rw[h]at q;cases q.2
end
end Go.Proofs.YtoikhhnmbbbjjaaDoor
namespace Go.Proofs.YtoikhhnmbbbjjaaDoor
set_option linter.unusedVariables false
set_option linter.unusedSimpArgs false
set_option maxRecDepth 100000
open Go.RowKit
def maskU (dep:Nat→List Nat) (j:Nat) (u:Nat→Value):Nat→Value:=fun k=>if k=j∨(dep j).contains k=true then u k else undef
def depOk (ops:Array Oper) (dep:Nat→List Nat) (m:Nat):Bool:=(List.range m).all (fun j=>(dep j).all (fun k=>(aheadOf ops 12 (waitsFor ops j)).contains k))
theorem maskU_upd {dep:Nat→List Nat} {i j:Nat} {u:Nat→Value} {v:Value} (hj:j≠i) (hd:(dep j).contains i=false):maskU dep j (updF u i v)=maskU dep j u:=by
 funext k
 unfold maskU
 by_cases h:k=j∨(dep j).contains k=true
 ·
  rw[if_pos h,if_pos h]
  unfold updF
  rw[if_neg]
  rintro rfl
  rcases h with h | h
  ·
   exact hj h.symm
  ·
   rw[hd]at h;cases h
 ·
  rw[if_neg h,if_neg h]
section
variable {P:Program} {ops:Array Oper} {Q:Exit→Act→World→Prop}
def StU (ops:Array Oper) (dep:Nat→List Nat) (φ:Nat→(Nat→Value)→World→Prop) (G0 G1:World→Prop) (p:Nat) (base:Act) (listed:Array Bool) (a:Act) (w:World):Prop :=
 ∃u,a=putF u (dsts ops) 0 base∧(listed.getD p false=false→G0 w)∧(listed.getD p false=true→G1 w)∧∀j,listed.getD j false=true→φ j (maskU dep j u) w
def StepU (P:Program) (ops:Array Oper) (Q:Exit→Act→World→Prop) (dep:Nat→List Nat) (φ:Nat→(Nat→Value)→World→Prop) (R:World→World→Prop) (G0 G1:World→Prop) (p:Nat) (T:(Nat→Value)→Act) (i:Nat) (o:Oper):Prop :=
 ∀(u:Nat→Value) (w:World),G0 w∨(G1 w∧(aheadOf ops 12 [p]).contains i=false)→(∀j,(aheadOf ops 12 (waitsFor ops i)).contains j=true→φ j (maskU dep j u) w)→∀K:Act→World→Prop,
  Shut (∀v w',R w w'→φ i (maskU dep i (updF u i v)) w'→K ((T u).put o.dst v) w')→Oper.wp P o (T u) w K Q
theorem stepsU_nil {ops:Array Oper} {dep:Nat→List Nat} {φ:Nat→(Nat→Value)→World→Prop} {R:World→World→Prop} {G0 G1:World→Prop} {p:Nat} {T:(Nat→Value)→Act} {i m:Nat} (h:m≤i):∀j,i≤j→j<m→∀o,ops[j]?=some o→j≠p→StepU P ops Q dep φ R G0 G1 p T j o:=fun j h1 h2=>by omega
theorem stepsU_skip {ops:Array Oper} {dep:Nat→List Nat} {φ:Nat→(Nat→Value)→World→Prop} {R:World→World→Prop} {G0 G1:World→Prop} {p p2:Nat} {T:(Nat→Value)→Act} {m:Nat}
  (hs:∀j,p2≤j→j<m→∀o,ops[j]?=some o→j≠p→StepU P ops Q dep φ R G0 G1 p T j o) (h2:p2=p+1:=by rfl):∀j,p≤j→j<m→∀o,ops[j]?=some o→j≠p→StepU P ops Q dep φ R G0 G1 p T j o:=fun j h1 h3 o ho hp=>hs j (by omega) h3 o ho hp
theorem stepsU_cons {ops:Array Oper} {dep:Nat→List Nat} {φ:Nat→(Nat→Value)→World→Prop} {R:World→World→Prop} {G0 G1:World→Prop} {p:Nat} {T:(Nat→Value)→Act} {i i2 m:Nat} {o:Oper} (ho:ops[i]?=some o) (h:StepU P ops Q dep φ R G0 G1 p T i o)
  (hs:∀j,i2≤j→j<m→∀o,ops[j]?=some o→j≠p→StepU P ops Q dep φ R G0 G1 p T j o) (hi:i2=i+1:=by rfl):∀j,i≤j→j<m→∀o,ops[j]?=some o→j≠p→StepU P ops Q dep φ R G0 G1 p T j o:=fun j h1 h2 o' ho' hp=>by
 rcases Nat.lt_or_ge i j with h3 | h3
 ·
  exact hs j (by omega) h2 o' ho' hp
 ·
  obtain rfl:j=i:=by omega
  rw[ho]at ho'
  obtain rfl:=Option.some.inj ho'
  exact h
theorem wp_region_factsU {id:Nat} {base:Act} {w:World} (m p:Nat) (dep:Nat→List Nat) (φ:Nat→(Nat→Value)→World→Prop) (R R':World→World→Prop) (G0 G1:World→Prop) (ds:List (Nat × Option Tmp)) {op ol:Oper} (hds:idxD (dsts ops) 0=ds)
  (hf:formOk ops m=true) (hdp:depOk ops dep m=true) (hm:P.follows .mixedOrders=true) (hpm:p<m) (hG:G0 w.drew) (hR:∀j (v:Nat→Value) w w',R w w'→φ j v w→φ j v w') (hR':∀j (v:Nat→Value) w w',j≠p→R' w w'→φ j v w→φ j v w') (hG0:∀w w',R w w'→G0 w→G0 w') (hG1:∀w w',R w w'→G1 w→G1 w')
  (hop:ops[p]?=some op) (hol:ops[m]?=some ol)
  (hstep:∀i,0≤i→i<m→∀o,ops[i]?=some o→i≠p→StepU P ops Q dep φ R G0 G1 p (fun u=>putP u ds base) i o)
  (hp:∀(u:Nat→Value) (w:World),G0 w→(∀j,(aheadOf ops 12 (waitsFor ops p)).contains j=true→φ j (maskU dep j u) w)→∀K:Act→World→Prop,
   Shut (∀v w',R' w w'→G1 w'→φ p (maskU dep p (updF u p v)) w'→K ((putP u ds base).put op.dst v) w') →
   Oper.wp P op (putP u ds base) w K Q)
  (hlast:∀(u:Nat→Value) (w:World),G1 w→(∀j,j<m→φ j (maskU dep j u) w)→∀K:Act→World→Prop,
   Shut (∀v w',Q .normal ((putP u ds base).put ol.dst v) w'→K ((putP u ds base).put ol.dst v) w') →
   Oper.wp P ol (putP u ds base) w K Q):(Code.region id ops true).wp P Q base w:=by
 subst hds
 simp only[putP_idx]at hstep hp hlast
 unfold depOk at hdp
 simp only[List.all_eq_true,List.mem_range]at hdp
 unfold formOk at hf
 simp only[Bool.and_eq_true,List.all_eq_true,List.mem_range,decide_eq_true_eq]at hf
 obtain⟨⟨⟨⟨hw,hap⟩,hall⟩,hsz⟩,hgd⟩:=hf
 have plain:∀(i:Nat) (o:Oper) (y:Nat→Option Bool),ops[i]?=some o→Region.wanted o y=true:=fun i o y ho=>by
  have h1:=hgd o (Array.mem_toList_iff.2 (Array.mem_of_getElem? ho))
  unfold Region.wanted
  cases hq:o.guard with
  | none=>rfl
  | some q=>rw[hq]at h1;cases h1
 have hlt:∀j,j<ops.size→∀k∈waitsFor ops j,k<j:=fun j hj k hk=>hw j hj k hk
 have hmem:∀listed:Array Bool,ClosedL ops listed→listed.getD m false=true→∀j,j<m→listed.getD j false=true:=fun listed hc h j hj =>
  ahead_closed hc 12 [m] (fun k hk=>by rw[List.mem_singleton.1 hk];exact h) j (by have:=hall j hj;simpa using this)
 have key:∀(fuel:Nat) (listed:Array Bool) (a:Act) (w:World),listed.size=ops.size→ClosedL ops listed→listed.getD m false=false→StU ops dep φ G0 G1 p base listed a w→(List.range ops.size).countP (fun j=>!listed.getD j true)≤fuel→wpAny P .any ops Q fuel listed a w:=by
  intro fuel
  induction fuel with
  | zero =>
   intro listed a w hs hc hl hI hn
   exfalso
   have h0:(List.range ops.size).countP (fun j=>!listed.getD j true)=0:=by omega
   rw[List.countP_eq_zero]at h0
   have:=h0 m (List.mem_range.2 (by omega))
   rw[getD_true_of (by omega)]at this hl
   rw[hl]at this
   exact this rfl
  | succ fuel ih =>
   intro listed a w hs hc hl hI hn
   refine⟨fun hr=>?_,fun i hi=>?_⟩
   ·
    have:=ready_nil hlt hs hr (m+1) m (by omega) (by omega)
    rw[this]at hl
    cases hl
   ·
    obtain⟨hjun,o,ho,-⟩:=mem_ready.1 hi
    have hi1:i<ops.size:=(Array.getElem?_eq_some_iff.1 ho).1
    have hif:listed.getD i false=false:=by rw[getD_true_of (by omega)]at hjun ⊢;exact hjun
    obtain⟨u,rfl,hg0,hg1,hφ⟩:=hI
    have hd:(dsts ops)[i]?=some o.dst:=by
     unfold dsts
     rw[List.getElem?_map,Array.getElem?_toList,ho]
     rfl
    have hput:∀v,(putF u (dsts ops) 0 base).put o.dst v=putF (updF u i v) (dsts ops) 0 base:=fun v=>by
     have:=putF_upd (u:=u) v (dsts ops) 0 i o.dst base hap hd
     rwa [Nat.zero_add]at this
    have hs2:(listed.setIfInBounds i true).size=ops.size:=by simpa using hs
    have hself:(listed.setIfInBounds i true).getD i false=true:=by rw[getD_true_of (by omega),Array.getElem_setIfInBounds_self]
    have hcn:(List.range ops.size).countP (fun j=>!(listed.setIfInBounds i true).getD j true)≤fuel:=by
     have:(List.range ops.size).countP (fun j=>!(listed.setIfInBounds i true).getD j true)<(List.range ops.size).countP (fun j=>!listed.getD j true):=by
      refine countP_lt (List.mem_range.2 hi1) (by rw[hjun];rfl) ?_ (fun j hj=>?_)
      ·
       rw[getD_true_of (by omega),Array.getElem_setIfInBounds_self]
       rfl
      ·
       by_cases h:i=j
       ·
        subst h;rw[hjun];rfl
       ·
        rw[getD_set_ne true h]at hj;exact hj
     omega
    have hjm:∀j,listed.getD j false=true→j<m:=fun j hj=>by
     rcases Nat.lt_or_ge j ops.size with h | h
     ·
      rcases Nat.lt_or_ge j m with h2 | h2
      ·
       exact h2
      ·
       obtain rfl:j=m:=by omega
       rw[hl]at hj;cases hj
     ·
      rw[Array.getD_eq_getD_getElem?,Array.getElem?_eq_none (by omega)]at hj
      cases hj
    have hdep:∀j,listed.getD j false=true→(dep j).contains i=false:=fun j hj=>by
     cases hb:(dep j).contains i with
     | false=>rfl
     | true =>
      have h3:=hdp j (hjm j hj) i (by simpa using hb)
      have h4:=ahead_closed hc 12 (waitsFor ops j) (fun k hk=>hc j hj k hk) i (by simpa using h3)
      rw[hif]at h4;cases h4
    have hfacts:∀j,(aheadOf ops 12 (waitsFor ops i)).contains j=true→φ j (maskU dep j u) w:=fun j hj=>hφ j (ahead_closed hc 12 _ (waits_ready hi) j (by simpa using hj))
    have nextφ:∀(v:Value) w',φ i (maskU dep i (updF u i v)) w'→(∀j,j≠i→listed.getD j false=true→φ j (maskU dep j u) w')→∀j,(listed.setIfInBounds i true).getD j false=true→φ j (maskU dep j (updF u i v)) w':=fun v w' hv hk j hj=>by
     by_cases h:i=j
     ·
      subst h
      exact hv
     ·
      rw[getD_set_ne false h]at hj
      rw[maskU_upd (fun e=>h e.symm) (hdep j hj)]
      exact hk j (fun e=>h e.symm) hj
    by_cases him:i=m
    ·
     subst him
     have hol':o=ol:=by rw[ho]at hol;exact Option.some.inj hol
     subst hol'
     have hall4:∀j,j<i→listed.getD j false=true:=fun j hj=>by
      have h3:=hmem _ (closed_set hc hi) hself j hj
      rwa [getD_set_ne false (by omega)]at h3
     have hall2:∀j,j<i→φ j (maskU dep j u) w:=fun j hj=>hφ j (hall4 j hj)
     have hall3:∀j,j<ops.size→(listed.setIfInBounds i true).getD j false=true:=fun j hj=>by
      rcases Nat.lt_or_ge j i with h | h
      ·
       exact hmem _ (closed_set hc hi) hself j h
      ·
       obtain rfl:j=i:=by omega
       exact hself
     have hnil:Region.ready .any ops (listed.setIfInBounds i true)=[]:=by
      refine List.eq_nil_iff_forall_not_mem.2 fun k hk=>?_
      obtain⟨h1,ok,hok,-⟩:=mem_ready.1 hk
      have hk1:k<ops.size:=(Array.getElem?_eq_some_iff.1 hok).1
      have h2:=hall3 k hk1
      rw[getD_true_of (by omega)]at h1 h2
      rw[h2]at h1
      cases h1
     exact wpOp_step ho fun K' hK=>(if_pos (plain _ _ _ ho)).mpr <| hlast u w (hg1 (hall4 p hpm)) hall2 K' (fun v w' hq=>hK _ _ (wpAny_done hnil hq _))
    ·
     have him2:(listed.setIfInBounds i true).getD m false=false:=by rw[getD_set_ne false him];exact hl
     by_cases hip:i=p
     ·
      subst hip
      have hop':o=op:=by rw[ho]at hop;exact Option.some.inj hop
      subst hop'
      refine wpOp_step ho fun K' hK=>(if_pos (plain _ _ _ ho)).mpr <| hp u w (hg0 hif) hfacts K' (fun v w' hRw hGw hv=>hK _ _ ?_)
      exact ih _ _ _ hs2 (closed_set hc hi) him2 ⟨updF u i v,hput v,fun h=>(by rw[hself]at h;cases h),fun _=>hGw,nextφ v w' hv (fun j hj hl=>hR' j _ _ _ hj hRw (hφ j hl))⟩ hcn
     ·
      refine wpOp_step ho fun K' hK=>(if_pos (plain _ _ _ ho)).mpr <| hstep i (Nat.zero_le _) (by omega) o ho hip u w ?_ hfacts K' (fun v w' hRw hv=>hK _ _ ?_)
      ·
       cases hpl:listed.getD p false with
       | false=>exact Or.inl (hg0 hpl)
       | true =>
        refine Or.inr ⟨hg1 hpl,?_⟩
        cases hb:(aheadOf ops 12 [p]).contains i with
        | false=>rfl
        | true =>
         have h3:=ahead_closed hc 12 [p] (fun k hk=>by rw[List.mem_singleton.1 hk];exact hpl) i (by simpa using hb)
         rw[hif]at h3
         cases h3
      ·
       have hpe:(listed.setIfInBounds i true).getD p false=listed.getD p false:=getD_set_ne false hip
       exact ih _ _ _ hs2 (closed_set hc hi) him2 ⟨updF u i v,hput v,fun h=>hG0 _ _ hRw (hg0 (by rw[hpe]at h;exact h)),fun h=>hG1 _ _ hRw (hg1 (by rw[hpe]at h;exact h)),nextφ v w' hv (fun j hj hl=>hR j _ _ _ hRw (hφ j hl))⟩ hcn
 have hrep:∀j,(Array.replicate ops.size false).getD j false=true→False:=fun j hj=>by
  by_cases h:j<ops.size
  ·
   rw[getD_true_of (by simpa using h)]at hj;simp at hj
  ·
   simp[Array.getElem?_eq_none (show (Array.replicate ops.size false).size≤j by simpa using h)]at hj
 refine wp_region_any hm (key ops.size _ _ _ (by simp) (fun j hj=>(hrep j hj).elim) ?_ ⟨fun j=>(((dsts ops)[j]?.getD none).map (fun t=>base.tmps.getD t undef)).getD undef,?_,fun _=>hG,fun h=>(hrep p h).elim,fun j hj=>(hrep j hj).elim⟩ ?_)
 ·
  rw[getD_true_of (by simp;omega)];simp
 ·
  symm
  refine putF_same base (dsts ops) 0 _ fun i d hd=>?_
  simp only[Nat.zero_add,hd,Option.getD_some]
 ·
  have:=List.countP_le_length (l:=List.range ops.size) (p:=fun j=>!(Array.replicate ops.size false).getD j true)
  simpa using this
theorem fact_ofU {ops:Array Oper} {X:Nat→Prop} {i:Nat} (hf:∀j,(aheadOf ops 12 (waitsFor ops i)).contains j=true→X j) (j:Nat) (h:(aheadOf ops 12 (waitsFor ops i)).contains j=true):X j:=hf j h
end
end Go.Proofs.YtoikhhnmbbbjjaaDoor
namespace Go.Proofs.YtoikhhnmbbbjjaaDoor
set_option linter.unusedVariables false
set_option linter.unusedSimpArgs false
set_option maxRecDepth 100000
open Go.RowKit
def KpN (N:Nat) (wa wb:World):Prop:=wa.heap.size≤wb.heap.size∧∀k,N≤k→k<wa.heap.size→wb.heap[k]?=wa.heap[k]?
theorem kpn_bel {N:Nat} {wa wb:World} (h:Bel wa wb):KpN N wa wb:=⟨h.size,fun k _ hl=>Below.block h k hl⟩
theorem KpN.obj {N g:Nat} {wa wb:World} {o:Obj} (h:KpN N wa wb) (hN:N≤g) (hg:wa.heap[g]?=some o):wb.heap[g]?=some o:=(h.2 g hN (Array.getElem?_eq_some_iff.1 hg).1).trans hg
theorem OwnD.kpn {N:Nat} {wa wb:World} {E:TypeId} {k:Nat} {v:Value} {L:List Nat} {ds:List (List Dat)} (h:OwnD wa E k v L ds) (hk:KpN N wa wb) (hl:∀q,Blk v L q→N≤q):OwnD wb E k v L ds:=h.keep hk.1 fun q hq=>hk.2 q (hl q hq) (h.lt q hq)
theorem grown_bel {wm wq wz:World} {r:Option Nat} (h:wm.grownBy wq r) (k:Bel wq wz):wm.grownBy wz r :=
 ⟨k.os.trans h.os,k.tape.trans h.tape,k.output.trans h.output,Nat.le_trans h.size k.size,fun i hi hr=>(Below.block k i (Nat.lt_of_lt_of_le hi h.size)).trans (h.block i hi hr)⟩
theorem lit_next {w wx:World} {N b q r:Nat} {v0 v1 v2 v3 v4 v5 v6 v7 v8 v9 v10 v11 v12 s0 s1 s2 s3 s4 s5 s6 s7 s8 s9 s10 s11 s12:Value} {l:List Ent} (h:ClF w N wx b q r v0 v1 v2 v3 v4 v5 v6 v7 v8 v9 v10 v11 v12 s0 s1 s2 s3 s4 s5 s6 s7 s8 s9 s10 s11 s12 l) :
  ClF w N ((wx.setCell ⟨b,2,none⟩ (.slice (some ⟨wx.heap.size,0,none⟩) 0 0)).alloc (.cells #[] 42)) b q r v0 v1 (.slice (some ⟨wx.heap.size,0,none⟩) 0 0) v3 v4 v5 v6 v7 v8 v9 v10 v11 v12 s0 s1 s2 s3 s4 s5 s6 s7 s8 s9 s10 s11 s12 (l++[⟨42,5,.slice (some ⟨wx.heap.size,0,none⟩) 0 0,[],[]⟩]):=by
 have hl:Blk (.slice (some ⟨wx.heap.size,0,none⟩) 0 0) []=fun b=>wx.heap.size=b:=by
  funext b
  simp[Blk,Value.ownBlock]
 have hb:=h.cl.box.1
 have hz:(wx.setCell ⟨b,2,none⟩ (.slice (some ⟨wx.heap.size,0,none⟩) 0 0)).heap.size=wx.heap.size:=by simp
 have h1:ClF w N (wx.setCell ⟨b,2,none⟩ (.slice (some ⟨wx.heap.size,0,none⟩) 0 0)) b q r v0 v1 (.slice (some ⟨wx.heap.size,0,none⟩) 0 0) v3 v4 v5 v6 v7 v8 v9 v10 v11 v12 s0 s1 s2 s3 s4 s5 s6 s7 s8 s9 s10 s11 s12 l :=
  ⟨⟨h.cl.box.put2 _,h.cl.ents.far h.cl.low.2.1 2 _,Below.setCell h.cl.bel h.cl.low.1 _,h.cl.low.1,h.cl.low.2.1,by rw[hz];exact h.cl.low.2.2⟩,h.sb.far 2 _ (fun e=>h.ne.1 e.symm),h.rb.far 2 _ (fun e=>h.ne.2.1 e.symm),h.ne⟩
 have ho:=OwnD.lit0 (wx.setCell ⟨b,2,none⟩ (.slice (some ⟨wx.heap.size,0,none⟩) 0 0)) 42 5
 rw[hz]at ho
 have hbl:Bel (wx.setCell ⟨b,2,none⟩ (.slice (some ⟨wx.heap.size,0,none⟩) 0 0)) ((wx.setCell ⟨b,2,none⟩ (.slice (some ⟨wx.heap.size,0,none⟩) 0 0)).alloc (.cells #[] 42)):=bl
 have h2:=h1.on hbl
 exact⟨⟨h2.cl.box,h1.cl.ents.snoc hbl (e:=⟨42,5,.slice (some ⟨wx.heap.size,0,none⟩) 0 0,[],[]⟩) ho h1.cl.low.2.2 (fun x hx=>by rw[hl]at hx;omega),h2.cl.bel,h2.cl.low⟩,h2.sb,h2.rb,h2.ne⟩
set_option maxHeartbeats 8000000 in
theorem specClone_any:CloneC 16:=by
 intro x0 x1 x2 x3 x4 x5 x6 x7 x8 x9 x10 x11 x12 S w vs hv hwt
 obtain⟨A0,c0,A1,c1,A2,c2,A3,c3,A6,c6,A7,c7,A8,c8,rfl,g0,g1,g2,g3,g4,g5,g6,g7,g8,-,g10,g11,g12⟩:=TStore.vals hv
 have HR0:=hide g0
 have hl0:=g0.1
 have hm0:=g0.2.1
 simp only[List.length_map]at hl0
 unfold maxLen at hm0
 have HR1:=hide g1
 have hl1:=g1.1
 have hm1:=g1.2.1
 simp only[List.length_map]at hl1
 unfold maxLen at hm1
 have HR2:=hide g2
 have hl2:=g2.1
 have hm2:=g2.2.1
 simp only[List.length_map]at hl2
 unfold maxLen at hm2
 have HR3:=hide g3
 have hl3:=g3.1
 have hm3:=g3.2.1
 simp only[List.length_map]at hl3
 unfold maxLen at hm3
 have HR6:=hide g6
 have hl6:=g6.1
 have hm6:=g6.2.1
 simp only[List.length_map]at hl6
 unfold maxLen at hm6
 have HR7:=hide g7
 have hl7:=g7.1
 have hm7:=g7.2.1
 simp only[List.length_map]at hl7
 unfold maxLen at hm7
 have HR8:=hide g8
 have hl8:=g8.1
 have hm8:=g8.2.1
 simp only[List.length_map]at hl8
 unfold maxLen at hm8
 rw[TStore.D_mk]at hwt
 simp only[Dat.lnL,Dat.ln,List.length_map]at hwt
 have hx0:x0.length≤1048576:=by omega
 have hx1:x1.length≤1048576:=by omega
 have hx2:x2.length≤1048576:=by omega
 have hx3:x3.length≤1048576:=by omega
 have hx6:x6.length≤1048576:=by omega
 have hx7:x7.length≤1048576:=by omega
 have hx8:x8.length≤1048576:=by omega
 have HFR:=hide (show ∀(k:Nat) (h:k<x1.length),x1[k].fl.length≤1048576 from fun k h=>by have:=wt_recs x1 k h;omega)
 have HFO:=hide (show ∀(k:Nat) (h:k<x2.length),x2[k].its.length+x2[k].kys.length≤1048576 from fun k h=>by have:=wt_objs x2 k h;omega)
 clear hwt hv g0 g1 g2 g3 g6 g7 g8
 obtain⟨is,his,zs0,zs1,zs2⟩:=info_parts infoStr
 obtain⟨iv,hiv,zv0,zv1,zv2⟩:=info_parts infoVal
 obtain⟨ia,hia,za0,za1,za2⟩:=info_parts infoAct
 obtain⟨io,hio,zo0,zo1,zo2⟩:=info_parts infoObj
 go_enter Tryd.func16,Tryd.ntmps16
 go_upto_region 2 with (fail)
 refine wp_named2 fun w2 hw2=>?_
 replace hw2:((w.alloc (.cells #[.slice A0 x0.length c0,.slice A1 x1.length c1,.slice A2 x2.length c2,.slice A3 x3.length c3,.string x4,.int .i64 x5,.slice A6 x6.length c6,.slice A7 x7.length c7,.slice A8 x8.length c8,.bool x9,.int .i64 x10,.int .i64 x11,.int .i64 x12] 30)).alloc (.cells #[.slice none 0 0,.slice none 0 0,.slice none 0 0,.slice none 0 0,.string ByteArray.empty,.int .i64 0,.slice none 0 0,.slice none 0 0,.slice none 0 0,.bool false,.int .i64 0,.int .i64 0,.int .i64 0] 30)).alloc (.cells #[.slice A0 x0.length c0,.slice A1 x1.length c1,.slice A2 x2.length c2,.slice A3 x3.length c3,.string x4,.int .i64 x5,.slice A6 x6.length c6,.slice A7 x7.length c7,.slice A8 x8.length c8,.bool x9,.int .i64 x10,.int .i64 x11,.int .i64 x12] 30)=w2:=hw2
 have hb2:Bel w w2:=by rw[←hw2];exact bl
 have hz2:w2.heap.size=w.heap.size+3:=by rw[←hw2];simp
 have SQ:SB w2 w.heap.size (.slice A0 x0.length c0) (.slice A1 x1.length c1) (.slice A2 x2.length c2) (.slice A3 x3.length c3) (.string x4) (.int .i64 x5) (.slice A6 x6.length c6) (.slice A7 x7.length c7) (.slice A8 x8.length c8) (.bool x9) (.int .i64 x10) (.int .i64 x11) (.int .i64 x12):=by rw[←hw2];first | exact (SB.new w 30).on bl | trace_state
 have SR:SB w2 (w.heap.size+1) (.slice none 0 0) (.slice none 0 0) (.slice none 0 0) (.slice none 0 0) (.string ByteArray.empty) (.int .i64 0) (.slice none 0 0) (.slice none 0 0) (.slice none 0 0) (.bool false) (.int .i64 0) (.int .i64 0) (.int .i64 0):=by rw[←hw2];first | (have h:=(SB.new (w.alloc (.cells #[.slice A0 x0.length c0,.slice A1 x1.length c1,.slice A2 x2.length c2,.slice A3 x3.length c3,.string x4,.int .i64 x5,.slice A6 x6.length c6,.slice A7 x7.length c7,.slice A8 x8.length c8,.bool x9,.int .i64 x10,.int .i64 x11,.int .i64 x12] 30)) 30 (v0:=.slice none 0 0) (v1:=.slice none 0 0) (v2:=.slice none 0 0) (v3:=.slice none 0 0) (v4:=.string ByteArray.empty) (v5:=.int .i64 0) (v6:=.slice none 0 0) (v7:=.slice none 0 0) (v8:=.slice none 0 0) (v9:=.bool false) (v10:=.int .i64 0) (v11:=.int .i64 0) (v12:=.int .i64 0));rw[World.size_alloc]at h;exact h.on bl) | trace_state
 have SBB:SB w2 (w.heap.size+2) (.slice A0 x0.length c0) (.slice A1 x1.length c1) (.slice A2 x2.length c2) (.slice A3 x3.length c3) (.string x4) (.int .i64 x5) (.slice A6 x6.length c6) (.slice A7 x7.length c7) (.slice A8 x8.length c8) (.bool x9) (.int .i64 x10) (.int .i64 x11) (.int .i64 x12):=by rw[←hw2];first | (have h:=SB.new ((w.alloc (.cells #[.slice A0 x0.length c0,.slice A1 x1.length c1,.slice A2 x2.length c2,.slice A3 x3.length c3,.string x4,.int .i64 x5,.slice A6 x6.length c6,.slice A7 x7.length c7,.slice A8 x8.length c8,.bool x9,.int .i64 x10,.int .i64 x11,.int .i64 x12] 30)).alloc (.cells #[.slice none 0 0,.slice none 0 0,.slice none 0 0,.slice none 0 0,.string ByteArray.empty,.int .i64 0,.slice none 0 0,.slice none 0 0,.slice none 0 0,.bool false,.int .i64 0,.int .i64 0,.int .i64 0] 30)) 30 (v0:=.slice A0 x0.length c0) (v1:=.slice A1 x1.length c1) (v2:=.slice A2 x2.length c2) (v3:=.slice A3 x3.length c3) (v4:=.string x4) (v5:=.int .i64 x5) (v6:=.slice A6 x6.length c6) (v7:=.slice A7 x7.length c7) (v8:=.slice A8 x8.length c8) (v9:=.bool x9) (v10:=.int .i64 x10) (v11:=.int .i64 x11) (v12:=.int .i64 x12);simp only[World.size_alloc]at h;exact h) | trace_state
 have T2:=hide (show ClF w (w.heap.size+3) w2 (w.heap.size+2) w.heap.size (w.heap.size+1) (.slice A0 x0.length c0) (.slice A1 x1.length c1) (.slice A2 x2.length c2) (.slice A3 x3.length c3) (.string x4) (.int .i64 x5) (.slice A6 x6.length c6) (.slice A7 x7.length c7) (.slice A8 x8.length c8) (.bool x9) (.int .i64 x10) (.int .i64 x11) (.int .i64 x12) (.slice A0 x0.length c0) (.slice A1 x1.length c1) (.slice A2 x2.length c2) (.slice A3 x3.length c3) (.string x4) (.int .i64 x5) (.slice A6 x6.length c6) (.slice A7 x7.length c7) (.slice A8 x8.length c8) (.bool x9) (.int .i64 x10) (.int .i64 x11) (.int .i64 x12) []from⟨⟨SBB,Ents.nil _ _,hb2,by omega,by omega,by omega⟩,SQ,SR,by omega,by omega,by omega,by omega,by omega⟩)
 clear hw2 hb2 hz2 SQ SR SBB
 obtain⟨hlq,hfq,kq_0,kq_1,kq_2,kq_3,kq_4,kq_5,kq_6,kq_7,kq_8,kq_9,kq_10,kq_11,kq_12⟩:=T2.out.sb
 obtain⟨hlb,hfb,kb_0,kb_1,kb_2,kb_3,kb_4,kb_5,kb_6,kb_7,kb_8,kb_9,kb_10,kb_11,kb_12⟩:=T2.out.cl.box
 have HO5:=hide (OwnD.lit0 w2 9 1)
 obtain⟨nw,hsr⟩:=Row.src (strs_flat x0) (Row.bel (Bel.trans T2.out.cl.bel (show Bel w2 (w2.alloc (.cells #[] 9))from bl)) HR0.out)
 rw[List.length_map]at hsr
 have HSR:=hide hsr
 clear hsr
 go_wp2_with (at_builtin;refine wpList_append_D rfl (.tmp 7) (.tmp 9) 24 rfl 9 is (.string ByteArray.empty) 1 16 Tryd.underlying24 his zs0 zs1 zs2 (by decide) (by decide) HO5.out HSR.out c0 rfl rfl (fun b _ h=>by cases h) (by simp only[List.length_nil];omega) (by simp only[List.length_nil];unfold maxLen;omega) ?_)
 intro v9 w9 hO9 hg9 hw9
 have HQ:=hide (copy_bel hg9 hw9)
 have HO9:=hide (show OwnD w9 9 1 v9 [] (x0.map (fun x=>[Dat.str x]))from hO9)
 clear hO9 hg9 hw9 HO5 HSR
 clear hlq hfq kq_0 kq_1 kq_2 kq_3 kq_4 kq_5 kq_6 kq_7 kq_8 kq_9 kq_10 kq_11 kq_12 hlb hfb kb_0 kb_1 kb_2 kb_3 kb_4 kb_5 kb_6 kb_7 kb_8 kb_9 kb_10 kb_11 kb_12
 obtain⟨B0,m0,d0,rfl⟩:∃A9 n9 c9,v9=.slice A9 n9 c9:=by obtain⟨A9,c9,L9,hv9,-⟩:=HO9.out.ownRow;exact⟨_,_,_,hv9⟩
 have TT9:=hide (T2.out.on HQ.out.1)
 obtain⟨hlq9,hfq9,kq9_0,kq9_1,kq9_2,kq9_3,kq9_4,kq9_5,kq9_6,kq9_7,kq9_8,kq9_9,kq9_10,kq9_11,kq9_12⟩:=TT9.out.sb
 obtain⟨hlb9,hfb9,kb9_0,kb9_1,kb9_2,kb9_3,kb9_4,kb9_5,kb9_6,kb9_7,kb9_8,kb9_9,kb9_10,kb9_11,kb9_12⟩:=TT9.out.cl.box
 go_upto_region 3 with (fail)
 refine wp_named2 fun wq3 hwq3=>?_
 have T3:=hide (show ClF w (w.heap.size+3) wq3 (w.heap.size+2) w.heap.size (w.heap.size+1) (.slice B0 m0 d0) (.slice A1 x1.length c1) (.slice A2 x2.length c2) (.slice A3 x3.length c3) (.string x4) (.int .i64 x5) (.slice A6 x6.length c6) (.slice A7 x7.length c7) (.slice A8 x8.length c8) (.bool x9) (.int .i64 x10) (.int .i64 x11) (.int .i64 x12) (.slice A0 x0.length c0) (.slice A1 x1.length c1) (.slice A2 x2.length c2) (.slice A3 x3.length c3) (.string x4) (.int .i64 x5) (.slice A6 x6.length c6) (.slice A7 x7.length c7) (.slice A8 x8.length c8) (.bool x9) (.int .i64 x10) (.int .i64 x11) (.int .i64 x12) [⟨9,1,(.slice B0 m0 d0),[],x0.map (fun x=>[Dat.str x])⟩]from by rw[←hwq3];exact T2.out.next HQ.out.1 HO9.out HQ.out.2 0 (TT9.out.cl.box.put0 _))
 clear hlq9 hfq9 kq9_0 kq9_1 kq9_2 kq9_3 kq9_4 kq9_5 kq9_6 kq9_7 kq9_8 kq9_9 kq9_10 kq9_11 kq9_12 hlb9 hfb9 kb9_0 kb9_1 kb9_2 kb9_3 kb9_4 kb9_5 kb9_6 kb9_7 kb9_8 kb9_9 kb9_10 kb9_11 kb9_12
 clear hwq3 HQ HO9 TT9 T2
 obtain⟨hlq,hfq,kq_0,kq_1,kq_2,kq_3,kq_4,kq_5,kq_6,kq_7,kq_8,kq_9,kq_10,kq_11,kq_12⟩:=T3.out.sb
 obtain⟨hlb,hfb,kb_0,kb_1,kb_2,kb_3,kb_4,kb_5,kb_6,kb_7,kb_8,kb_9,kb_10,kb_11,kb_12⟩:=T3.out.cl.box
 go_upto_region 4 with (go_at_call 33;refine (specRecs_any x1 S _ _ _ (Row.bel T3.out.cl.bel HR1.out) hx1 HFR.out).mono ?_;rintro e w9 ⟨v9,L1,rfl,hO9,hn9,hb9⟩;have HO9:=hide hO9;have HN9:=hide hn9;have HB9:=hide hb9;clear hO9 hn9 hb9;obtain⟨B1,m1,d1,rfl⟩:∃A9 n9 c9,v9=.slice A9 n9 c9:=(by obtain⟨A9,c9,L9,hv9,-⟩:=HO9.out.ownRow;exact⟨_,_,_,hv9⟩);have TT9:=hide (T3.out.on HB9.out);obtain⟨hlb9,hfb9,kb9_0,kb9_1,kb9_2,kb9_3,kb9_4,kb9_5,kb9_6,kb9_7,kb9_8,kb9_9,kb9_10,kb9_11,kb9_12⟩:=TT9.out.cl.box)
 clear hlq hfq kq_0 kq_1 kq_2 kq_3 kq_4 kq_5 kq_6 kq_7 kq_8 kq_9 kq_10 kq_11 kq_12 hlb hfb kb_0 kb_1 kb_2 kb_3 kb_4 kb_5 kb_6 kb_7 kb_8 kb_9 kb_10 kb_11 kb_12
 refine wp_named2 fun wq4 hwq4=>?_
 have T4:=hide (show ClF w (w.heap.size+3) wq4 (w.heap.size+2) w.heap.size (w.heap.size+1) (.slice B0 m0 d0) (.slice B1 m1 d1) (.slice A2 x2.length c2) (.slice A3 x3.length c3) (.string x4) (.int .i64 x5) (.slice A6 x6.length c6) (.slice A7 x7.length c7) (.slice A8 x8.length c8) (.bool x9) (.int .i64 x10) (.int .i64 x11) (.int .i64 x12) (.slice A0 x0.length c0) (.slice A1 x1.length c1) (.slice A2 x2.length c2) (.slice A3 x3.length c3) (.string x4) (.int .i64 x5) (.slice A6 x6.length c6) (.slice A7 x7.length c7) (.slice A8 x8.length c8) (.bool x9) (.int .i64 x10) (.int .i64 x11) (.int .i64 x12) [⟨9,1,(.slice B0 m0 d0),[],x0.map (fun x=>[Dat.str x])⟩,⟨71,3,(.slice B1 m1 d1),L1,x1.map TRecordType.D⟩]from by rw[←hwq4];exact T3.out.next HB9.out HO9.out HN9.out 1 (TT9.out.cl.box.put1 _))
 clear hwq4 HB9 HO9 HN9 TT9 T3 hlb9 hfb9 kb9_0 kb9_1 kb9_2 kb9_3 kb9_4 kb9_5 kb9_6 kb9_7 kb9_8 kb9_9 kb9_10 kb9_11 kb9_12
 obtain⟨hlq,hfq,kq_0,kq_1,kq_2,kq_3,kq_4,kq_5,kq_6,kq_7,kq_8,kq_9,kq_10,kq_11,kq_12⟩:=T4.out.sb
 obtain⟨hlb,hfb,kb_0,kb_1,kb_2,kb_3,kb_4,kb_5,kb_6,kb_7,kb_8,kb_9,kb_10,kb_11,kb_12⟩:=T4.out.cl.box
 go_upto_region 5 with (fail)
 clear hlq hfq kq_0 kq_1 kq_2 kq_3 kq_4 kq_5 kq_6 kq_7 kq_8 kq_9 kq_10 kq_11 kq_12 hlb hfb kb_0 kb_1 kb_2 kb_3 kb_4 kb_5 kb_6 kb_7 kb_8 kb_9 kb_10 kb_11 kb_12
 refine wp_named2 fun wq5 hwq5=>?_
 have T5:=hide (show ClF w (w.heap.size+3) wq5 (w.heap.size+2) w.heap.size (w.heap.size+1) (.slice B0 m0 d0) (.slice B1 m1 d1) (.slice (some ⟨wq4.heap.size,0,none⟩) 0 0) (.slice A3 x3.length c3) (.string x4) (.int .i64 x5) (.slice A6 x6.length c6) (.slice A7 x7.length c7) (.slice A8 x8.length c8) (.bool x9) (.int .i64 x10) (.int .i64 x11) (.int .i64 x12) (.slice A0 x0.length c0) (.slice A1 x1.length c1) (.slice A2 x2.length c2) (.slice A3 x3.length c3) (.string x4) (.int .i64 x5) (.slice A6 x6.length c6) (.slice A7 x7.length c7) (.slice A8 x8.length c8) (.bool x9) (.int .i64 x10) (.int .i64 x11) (.int .i64 x12) [⟨9,1,(.slice B0 m0 d0),[],x0.map (fun x=>[Dat.str x])⟩,⟨71,3,(.slice B1 m1 d1),L1,x1.map TRecordType.D⟩,⟨42,5,(.slice (some ⟨wq4.heap.size,0,none⟩) 0 0),[],[]⟩]from by rw[←hwq5];exact lit_next T4.out)
 clear hwq5 T4
 obtain⟨hlq,hfq,kq_0,kq_1,kq_2,kq_3,kq_4,kq_5,kq_6,kq_7,kq_8,kq_9,kq_10,kq_11,kq_12⟩:=T5.out.sb
 obtain⟨hlb,hfb,kb_0,kb_1,kb_2,kb_3,kb_4,kb_5,kb_6,kb_7,kb_8,kb_9,kb_10,kb_11,kb_12⟩:=T5.out.cl.box
 go_wp2_with (fail)
 clear hlq hfq kq_0 kq_1 kq_2 kq_3 kq_4 kq_5 kq_6 kq_7 kq_8 kq_9 kq_10 kq_11 kq_12 hlb hfb kb_0 kb_1 kb_2 kb_3 kb_4 kb_5 kb_6 kb_7 kb_8 kb_9 kb_10 kb_11 kb_12
 go_loopw [4] (fun iv wr=>∃(i:Nat) (v:Value) (L:List Nat),iv=.int .i64 i∧i≤x2.length∧Hid (ClF w (w.heap.size+3) wr (w.heap.size+2) w.heap.size (w.heap.size+1) (.slice B0 m0 d0) (.slice B1 m1 d1) v (.slice A3 x3.length c3) (.string x4) (.int .i64 x5) (.slice A6 x6.length c6) (.slice A7 x7.length c7) (.slice A8 x8.length c8) (.bool x9) (.int .i64 x10) (.int .i64 x11) (.int .i64 x12) (.slice A0 x0.length c0) (.slice A1 x1.length c1) (.slice A2 x2.length c2) (.slice A3 x3.length c3) (.string x4) (.int .i64 x5) (.slice A6 x6.length c6) (.slice A7 x7.length c7) (.slice A8 x8.length c8) (.bool x9) (.int .i64 x10) (.int .i64 x11) (.int .i64 x12) [⟨9,1,(.slice B0 m0 d0),[],x0.map (fun x=>[Dat.str x])⟩,⟨71,3,(.slice B1 m1 d1),L1,x1.map TRecordType.D⟩,⟨42,5,v,L,(x2.take i).map TObject.D⟩])) (fun iv _=>x2.length - (intOf iv).toNat)
 case atStart=>exact⟨0,_,[],rfl,Nat.zero_le _,hide (by have h:=T5.out;simpa only[List.take_zero,List.map_nil]using h)⟩
 case round =>
  obtain⟨i,v,L,rfl,hi,HT⟩:=hrel
  clear T5
  by_cases h:i<x2.length
  ·
   skip
   have hdc:decide ((i:Int)<(x2.length:Int))=true:=by simp;omega
   have hdn:decide (i<x2.length)=true:=by simp[h]
   have hbw:=HT.out.cl.bel
   have hi0:(0:Int)≤(i:Int):=by omega
   have hi1:(i:Int)<(x2.length:Int):=by omega
   (obtain⟨b1,o1,x1_0,x1_1,x1_2,x1_3,x1_4,A1_3,C1_3,A1_4,C1_4,hA1,hS1,hl1,hx1,hv1,g1_0,g1_1,g1_2,g1_3,g1_4,c1_0,c1_1,c1_2,c1_3,c1_4⟩:=TObject.at HR2.out i h;subst hA1;have HV1:=hide (Dat.HoldVals.bel hbw hv1);have hh1:=hbw.box b1 hl1;have hw1:=Nat.lt_of_lt_of_le hl1 (Bel.size hbw);replace c1_0:=(hh1 _).trans c1_0;replace c1_1:=(hh1 _).trans c1_1;replace c1_2:=(hh1 _).trans c1_2;replace c1_3:=(hh1 _).trans c1_3;replace c1_4:=(hh1 _).trans c1_4;have HX1:=hide hx1;have GR1_3:=hide g1_3;have GR1_4:=hide g1_4;clear hh1 hv1 hx1 hS1 g1_3 g1_4)
   have hfo:=HFO.out i h
   rw[HX1.out]at hfo
   simp only[TObject.its,TObject.kys]at hfo
   obtain⟨hlq,hfq,kq_0,kq_1,kq_2,kq_3,kq_4,kq_5,kq_6,kq_7,kq_8,kq_9,kq_10,kq_11,kq_12⟩:=HT.out.sb
   obtain⟨hlb,hfb,kb_0,kb_1,kb_2,kb_3,kb_4,kb_5,kb_6,kb_7,kb_8,kb_9,kb_10,kb_11,kb_12⟩:=HT.out.cl.box
   go_upto_region 9 with (fail)
   clear hlq hfq kq_0 kq_1 kq_2 kq_3 kq_4 kq_5 kq_6 kq_7 kq_8 kq_9 kq_10 kq_11 kq_12 hlb hfb kb_0 kb_1 kb_2 kb_3 kb_4 kb_5 kb_6 kb_7 kb_8 kb_9 kb_10 kb_11 kb_12
   rename World=>wL
   refine wp_named2 fun wr hwr=>?_
   have hbA:Bel wL wr:=by rw[←hwr];exact bl
   have OA:=hide (show OB wr wL.heap.size (.int .i64 x1_0) (.int .i64 x1_1) (.int .i64 x1_2) (.slice A1_3 x1_3.length C1_3) (.slice A1_4 x1_4.length C1_4)from by rw[←hwr];first | exact OB.new _ _ | exact (((((OB.new _ _).put0 _).put1 _).put2 _).put3 _).put4 _)
   have TA:=hide (HT.out.on hbA)
   have hzo:wL.heap.size<wr.heap.size:=OA.out.1
   clear hwr
   refine wp_region_factsU (m:=18) (p:=16) (fun j=>match j with | 13=>[10] | _=>[]) (fun j vf wq=>match j with | 0=>((vf 0)=.pointer (some ⟨(w.heap.size+2),2,none⟩)) | 1=>((vf 1)=v) | 2=>((vf 2)=.pointer (some ⟨wL.heap.size,0,none⟩)) | 3=>((vf 3)=.int .i64 x1_0) | 4=>((vf 4)=.pointer (some ⟨wL.heap.size,1,none⟩)) | 5=>((vf 5)=.int .i64 x1_1) | 6=>((vf 6)=.pointer (some ⟨wL.heap.size,2,none⟩)) | 7=>((vf 7)=.int .i64 x1_2) | 8=>((vf 8)=.pointer (some ⟨wL.heap.size,3,none⟩)) | 9=>((vf 9)=.slice A1_3 x1_3.length C1_3) | 10=>(∃(AI:Option Addr) (dI:Nat),(vf 10)=.slice AI (List.length x1_3) dI∧OwnD wq 34 6 (.slice AI (List.length x1_3) dI) [] (x1_3.map TValue.D)∧(∀q,Blk (.slice AI (List.length x1_3) dI) [] q→wr.heap.size≤q)) | 11=>((vf 11)=.pointer (some ⟨wL.heap.size,4,none⟩)) | 12=>((vf 12)=.slice A1_4 x1_4.length C1_4) | 13=>(∃(AJ:Option Addr) (dJ:Nat),(vf 13)=.slice AJ (List.length x1_4) dJ∧OwnD wq 34 6 (.slice AJ (List.length x1_4) dJ) [] (x1_4.map TValue.D)∧(∀q,Blk (.slice AJ (List.length x1_4) dJ) [] q→wr.heap.size≤q∧¬Blk (vf 10) [] q)) | 14=>(∃(AI:Option Addr) (dI:Nat) (AJ:Option Addr) (dJ:Nat),(vf 14)=.agg #[.int .i64 x1_0,.int .i64 x1_1,.int .i64 x1_2,.slice AI (List.length x1_3) dI,.slice AJ (List.length x1_4) dJ]∧OwnD wq 34 6 (.slice AI (List.length x1_3) dI) [] (x1_3.map TValue.D)∧OwnD wq 34 6 (.slice AJ (List.length x1_4) dJ) [] (x1_4.map TValue.D)∧(∀q,Blk (.slice AI (List.length x1_3) dI) [] q→wr.heap.size≤q)∧(∀q,Blk (.slice AJ (List.length x1_4) dJ) [] q→wr.heap.size≤q∧¬Blk (.slice AI (List.length x1_3) dI) [] q)) | 15=>(∃(AI:Option Addr) (dI:Nat) (AJ:Option Addr) (dJ:Nat) (g:Nat),(vf 15)=.slice (some ⟨g,0,none⟩) 1 1∧wr.heap.size≤g∧wq.heap[g]?=some (.cells #[.int .i64 x1_0,.int .i64 x1_1,.int .i64 x1_2,.slice AI (List.length x1_3) dI,.slice AJ (List.length x1_4) dJ] 42)∧OwnD wq 34 6 (.slice AI (List.length x1_3) dI) [] (x1_3.map TValue.D)∧OwnD wq 34 6 (.slice AJ (List.length x1_4) dJ) [] (x1_4.map TValue.D)∧(∀q,Blk (.slice AI (List.length x1_3) dI) [] q→wr.heap.size≤q)∧(∀q,Blk (.slice AJ (List.length x1_4) dJ) [] q→wr.heap.size≤q∧¬Blk (.slice AI (List.length x1_3) dI) [] q)) | 16=>(∃M:List Nat,OwnD wq 42 5 (vf 16) (L++M) ((x2.take (i+1)).map TObject.D)∧∀q,Blk (vf 16) (L++M) q→Blk v L q∨wr.heap.size≤q) | 17=>((vf 17)=.pointer (some ⟨(w.heap.size+2),2,none⟩)) | _=>True) (fun wa wb=>Bel wa wb) (fun wa wb=>KpN wr.heap.size wa wb) (fun wq=>ClF w (w.heap.size+3) wq (w.heap.size+2) w.heap.size (w.heap.size+1) (.slice B0 m0 d0) (.slice B1 m1 d1) v (.slice A3 x3.length c3) (.string x4) (.int .i64 x5) (.slice A6 x6.length c6) (.slice A7 x7.length c7) (.slice A8 x8.length c8) (.bool x9) (.int .i64 x10) (.int .i64 x11) (.int .i64 x12) (.slice A0 x0.length c0) (.slice A1 x1.length c1) (.slice (some ⟨b1,o1,none⟩) x2.length c2) (.slice A3 x3.length c3) (.string x4) (.int .i64 x5) (.slice A6 x6.length c6) (.slice A7 x7.length c7) (.slice A8 x8.length c8) (.bool x9) (.int .i64 x10) (.int .i64 x11) (.int .i64 x12) [⟨9,1,(.slice B0 m0 d0),[],x0.map (fun x=>[Dat.str x])⟩,⟨71,3,(.slice B1 m1 d1),L1,x1.map TRecordType.D⟩,⟨42,5,v,L,(x2.take i).map TObject.D⟩]∧OB wq wL.heap.size (.int .i64 x1_0) (.int .i64 x1_1) (.int .i64 x1_2) (.slice A1_3 x1_3.length C1_3) (.slice A1_4 x1_4.length C1_4)∧Bel wr wq) (fun wq=>∃wm:World,Bel wr wm∧wm.grownBy wq v.ownBlock) [(0,some 30),(1,some 31),(2,some 32),(3,some 33),(4,some 34),(5,some 35),(6,some 36),(7,some 37),(8,some 38),(9,some 39),(10,some 40),(11,some 41),(12,some 42),(13,some 43),(14,some 44),(15,some 45),(16,some 46),(17,some 47),(18,none)] rfl (by kernel_rfl) (by kernel_rfl) (by kernel_rfl) (by decide) ?hG ?hR ?hR2 ?hG0 ?hG1 rfl rfl ?hstep ?hp ?hlast
   case hG=>exact⟨TA.out.on bl,OA.out.on bl,bl⟩
   case hG0=>exact fun wa wb hk hg=>⟨hg.1.on hk,hg.2.1.on hk,hg.2.2.trans hk⟩
   case hG1=>exact fun wa wb hk hg=>by obtain⟨wm,h3,h4⟩:=hg;exact⟨wm,h3,grown_bel h4 hk⟩
   case hR =>
    intro j vf wa wb hk hv
    match j,hv with
    | 0,hv=>exact hv
    | 1,hv=>exact hv
    | 2,hv=>exact hv
    | 3,hv=>exact hv
    | 4,hv=>exact hv
    | 5,hv=>exact hv
    | 6,hv=>exact hv
    | 7,hv=>exact hv
    | 8,hv=>exact hv
    | 9,hv=>exact hv
    | 10,hv=>exact (by obtain⟨AI,dI,e,h1,h2⟩:=hv;exact⟨AI,dI,e,h1.kpn (kpn_bel hk) h2,h2⟩)
    | 11,hv=>exact hv
    | 12,hv=>exact hv
    | 13,hv=>exact (by obtain⟨AJ,dJ,e,h1,h2⟩:=hv;exact⟨AJ,dJ,e,h1.kpn (kpn_bel hk) (fun q hq=>(h2 q hq).1),h2⟩)
    | 14,hv=>exact (by obtain⟨AI,dI,AJ,dJ,e,h1,h2,h3,h4⟩:=hv;exact⟨AI,dI,AJ,dJ,e,h1.kpn (kpn_bel hk) h3,h2.kpn (kpn_bel hk) (fun q hq=>(h4 q hq).1),h3,h4⟩)
    | 15,hv=>exact (by obtain⟨AI,dI,AJ,dJ,g,e,q1,q2,h1,h2,h3,h4⟩:=hv;exact⟨AI,dI,AJ,dJ,g,e,q1,KpN.obj (kpn_bel hk) q1 q2,h1.kpn (kpn_bel hk) h3,h2.kpn (kpn_bel hk) (fun q hq=>(h4 q hq).1),h3,h4⟩)
    | 16,hv=>exact (by obtain⟨M,h1,h2⟩:=hv;exact⟨M,h1.bel hk,h2⟩)
    | 17,hv=>exact hv
    | n+18,hv=>exact trivial
   case hR2 =>
    intro j vf wa wb hjp hk hv
    match j,hv with
    | 0,hv=>exact hv
    | 1,hv=>exact hv
    | 2,hv=>exact hv
    | 3,hv=>exact hv
    | 4,hv=>exact hv
    | 5,hv=>exact hv
    | 6,hv=>exact hv
    | 7,hv=>exact hv
    | 8,hv=>exact hv
    | 9,hv=>exact hv
    | 10,hv=>exact (by obtain⟨AI,dI,e,h1,h2⟩:=hv;exact⟨AI,dI,e,h1.kpn hk h2,h2⟩)
    | 11,hv=>exact hv
    | 12,hv=>exact hv
    | 13,hv=>exact (by obtain⟨AJ,dJ,e,h1,h2⟩:=hv;exact⟨AJ,dJ,e,h1.kpn hk (fun q hq=>(h2 q hq).1),h2⟩)
    | 14,hv=>exact (by obtain⟨AI,dI,AJ,dJ,e,h1,h2,h3,h4⟩:=hv;exact⟨AI,dI,AJ,dJ,e,h1.kpn hk h3,h2.kpn hk (fun q hq=>(h4 q hq).1),h3,h4⟩)
    | 15,hv=>exact (by obtain⟨AI,dI,AJ,dJ,g,e,q1,q2,h1,h2,h3,h4⟩:=hv;exact⟨AI,dI,AJ,dJ,g,e,q1,KpN.obj hk q1 q2,h1.kpn hk h3,h2.kpn hk (fun q hq=>(h4 q hq).1),h3,h4⟩)
    | 17,hv=>exact hv
    | 16,hv=>exact absurd rfl hjp
    | n+18,hv=>exact trivial
   case hstep =>
    simp only[putP,Act.put,List.setIfInBounds_toArray,List.set_cons_zero,List.set_cons_succ,List.getElem_toArray,List.getElem_cons_zero,List.getElem_cons_succ]
    refine (stepsU_cons (i:=0) (i2:=1) (o:=_) rfl ?s0 (stepsU_cons (i:=1) (i2:=2) (o:=_) rfl ?s1 (stepsU_cons (i:=2) (i2:=3) (o:=_) rfl ?s2 (stepsU_cons (i:=3) (i2:=4) (o:=_) rfl ?s3 (stepsU_cons (i:=4) (i2:=5) (o:=_) rfl ?s4 (stepsU_cons (i:=5) (i2:=6) (o:=_) rfl ?s5 (stepsU_cons (i:=6) (i2:=7) (o:=_) rfl ?s6 (stepsU_cons (i:=7) (i2:=8) (o:=_) rfl ?s7 (stepsU_cons (i:=8) (i2:=9) (o:=_) rfl ?s8 (stepsU_cons (i:=9) (i2:=10) (o:=_) rfl ?s9 (stepsU_cons (i:=10) (i2:=11) (o:=_) rfl ?s10 (stepsU_cons (i:=11) (i2:=12) (o:=_) rfl ?s11 (stepsU_cons (i:=12) (i2:=13) (o:=_) rfl ?s12 (stepsU_cons (i:=13) (i2:=14) (o:=_) rfl ?s13 (stepsU_cons (i:=14) (i2:=15) (o:=_) rfl ?s14 (stepsU_cons (i:=15) (i2:=16) (o:=_) rfl ?s15 (stepsU_skip (p:=16) (p2:=17) (stepsU_cons (i:=17) (i2:=18) (o:=_) rfl ?s17 (stepsU_nil (by decide))))))))))))))))))))
    case s0 =>
     intro u wa hG hf K hK
     clear hf
     clear hG
     simp only[Act.put,List.setIfInBounds_toArray,List.set_cons_zero,List.set_cons_succ,List.getElem_toArray,List.getElem_cons_zero,List.getElem_cons_succ]at hK ⊢
     go_simp
     exact hK.out _ _ (Bel.refl _) rfl
    case s2 =>
     intro u wa hG hf K hK
     clear hf
     clear hG
     simp only[Act.put,List.setIfInBounds_toArray,List.set_cons_zero,List.set_cons_succ,List.getElem_toArray,List.getElem_cons_zero,List.getElem_cons_succ]at hK ⊢
     go_simp
     exact hK.out _ _ (Bel.refl _) rfl
    case s4 =>
     intro u wa hG hf K hK
     clear hf
     clear hG
     simp only[Act.put,List.setIfInBounds_toArray,List.set_cons_zero,List.set_cons_succ,List.getElem_toArray,List.getElem_cons_zero,List.getElem_cons_succ]at hK ⊢
     go_simp
     exact hK.out _ _ (Bel.refl _) rfl
    case s6 =>
     intro u wa hG hf K hK
     clear hf
     clear hG
     simp only[Act.put,List.setIfInBounds_toArray,List.set_cons_zero,List.set_cons_succ,List.getElem_toArray,List.getElem_cons_zero,List.getElem_cons_succ]at hK ⊢
     go_simp
     exact hK.out _ _ (Bel.refl _) rfl
    case s8 =>
     intro u wa hG hf K hK
     clear hf
     clear hG
     simp only[Act.put,List.setIfInBounds_toArray,List.set_cons_zero,List.set_cons_succ,List.getElem_toArray,List.getElem_cons_zero,List.getElem_cons_succ]at hK ⊢
     go_simp
     exact hK.out _ _ (Bel.refl _) rfl
    case s11 =>
     intro u wa hG hf K hK
     clear hf
     clear hG
     simp only[Act.put,List.setIfInBounds_toArray,List.set_cons_zero,List.set_cons_succ,List.getElem_toArray,List.getElem_cons_zero,List.getElem_cons_succ]at hK ⊢
     go_simp
     exact hK.out _ _ (Bel.refl _) rfl
    case s17 =>
     intro u wa hG hf K hK
     clear hf
     clear hG
     simp only[Act.put,List.setIfInBounds_toArray,List.set_cons_zero,List.set_cons_succ,List.getElem_toArray,List.getElem_cons_zero,List.getElem_cons_succ]at hK ⊢
     go_simp
     exact hK.out _ _ (Bel.refl _) rfl
    case s1 =>
     intro u wa hG hf K hK
     have g0:=g0_of hG (by kernel_rfl)
     have e0:(u 0)=.pointer (some ⟨(w.heap.size+2),2,none⟩):=fact_ofU hf 0 (by kernel_rfl)
     clear hf
     clear hG
     simp only[Act.put,List.setIfInBounds_toArray,List.set_cons_zero,List.set_cons_succ,List.getElem_toArray,List.getElem_cons_zero,List.getElem_cons_succ]at hK ⊢
     rw[e0]at hK ⊢
     obtain⟨hlb,hfb,kb_0,kb_1,kb_2,kb_3,kb_4,kb_5,kb_6,kb_7,kb_8,kb_9,kb_10,kb_11,kb_12⟩:=g0.1.cl.box
     clear g0
     go_simp
     exact hK.out _ _ (Bel.refl _) rfl
    case s3 =>
     intro u wa hG hf K hK
     have g0:=g0_of hG (by kernel_rfl)
     have e2:(u 2)=.pointer (some ⟨wL.heap.size,0,none⟩):=fact_ofU hf 2 (by kernel_rfl)
     clear hf
     clear hG
     simp only[Act.put,List.setIfInBounds_toArray,List.set_cons_zero,List.set_cons_succ,List.getElem_toArray,List.getElem_cons_zero,List.getElem_cons_succ]at hK ⊢
     rw[e2]at hK ⊢
     obtain⟨hlo,hfo2,q0,q1,q2,q3,q4⟩:=g0.2.1
     clear g0
     go_simp
     exact hK.out _ _ (Bel.refl _) rfl
    case s5 =>
     intro u wa hG hf K hK
     have g0:=g0_of hG (by kernel_rfl)
     have e4:(u 4)=.pointer (some ⟨wL.heap.size,1,none⟩):=fact_ofU hf 4 (by kernel_rfl)
     clear hf
     clear hG
     simp only[Act.put,List.setIfInBounds_toArray,List.set_cons_zero,List.set_cons_succ,List.getElem_toArray,List.getElem_cons_zero,List.getElem_cons_succ]at hK ⊢
     rw[e4]at hK ⊢
     obtain⟨hlo,hfo2,q0,q1,q2,q3,q4⟩:=g0.2.1
     clear g0
     go_simp
     exact hK.out _ _ (Bel.refl _) rfl
    case s7 =>
     intro u wa hG hf K hK
     have g0:=g0_of hG (by kernel_rfl)
     have e6:(u 6)=.pointer (some ⟨wL.heap.size,2,none⟩):=fact_ofU hf 6 (by kernel_rfl)
     clear hf
     clear hG
     simp only[Act.put,List.setIfInBounds_toArray,List.set_cons_zero,List.set_cons_succ,List.getElem_toArray,List.getElem_cons_zero,List.getElem_cons_succ]at hK ⊢
     rw[e6]at hK ⊢
     obtain⟨hlo,hfo2,q0,q1,q2,q3,q4⟩:=g0.2.1
     clear g0
     go_simp
     exact hK.out _ _ (Bel.refl _) rfl
    case s9 =>
     intro u wa hG hf K hK
     have g0:=g0_of hG (by kernel_rfl)
     have e8:(u 8)=.pointer (some ⟨wL.heap.size,3,none⟩):=fact_ofU hf 8 (by kernel_rfl)
     clear hf
     clear hG
     simp only[Act.put,List.setIfInBounds_toArray,List.set_cons_zero,List.set_cons_succ,List.getElem_toArray,List.getElem_cons_zero,List.getElem_cons_succ]at hK ⊢
     rw[e8]at hK ⊢
     obtain⟨hlo,hfo2,q0,q1,q2,q3,q4⟩:=g0.2.1
     clear g0
     go_simp
     exact hK.out _ _ (Bel.refl _) rfl
    case s12 =>
     intro u wa hG hf K hK
     have g0:=g0_of hG (by kernel_rfl)
     have e11:(u 11)=.pointer (some ⟨wL.heap.size,4,none⟩):=fact_ofU hf 11 (by kernel_rfl)
     clear hf
     clear hG
     simp only[Act.put,List.setIfInBounds_toArray,List.set_cons_zero,List.set_cons_succ,List.getElem_toArray,List.getElem_cons_zero,List.getElem_cons_succ]at hK ⊢
     rw[e11]at hK ⊢
     obtain⟨hlo,hfo2,q0,q1,q2,q3,q4⟩:=g0.2.1
     clear g0
     go_simp
     exact hK.out _ _ (Bel.refl _) rfl
    case s10 =>
     intro u wa hG hf K hK
     have g0:=g0_of hG (by kernel_rfl)
     have e9:(u 9)=.slice A1_3 x1_3.length C1_3:=fact_ofU hf 9 (by kernel_rfl)
     clear hf
     clear hG
     simp only[Act.put,List.setIfInBounds_toArray,List.set_cons_zero,List.set_cons_succ,List.getElem_toArray,List.getElem_cons_zero,List.getElem_cons_succ]at hK ⊢
     rw[e9]at hK ⊢
     have hbl9:=g0.1.cl.bel
     have hz9:=Bel.size g0.2.2
     go_simp
     go_at_call 34
     refine (specVals_any x1_3 S _ _ _ (Row.bel hbl9 GR1_3.out) (by omega)).mono ?_
     rintro e w2 ⟨vv,rfl,hO,hn,hb2⟩
     obtain⟨AI,dI,L9,hvv,-⟩:=hO.ownRow
     rw[List.length_map]at hvv
     subst hvv
     exact hK.out _ _ hb2 ⟨AI,dI,rfl,hO,fun q hq=>Nat.le_trans hz9 (hn q hq)⟩
    case s13 =>
     intro u wa hG hf K hK
     have g0:=g0_of hG (by kernel_rfl)
     have e12:(u 12)=.slice A1_4 x1_4.length C1_4:=fact_ofU hf 12 (by kernel_rfl)
     have e10:∃(AI:Option Addr) (dI:Nat),(u 10)=.slice AI (List.length x1_3) dI∧OwnD wa 34 6 (.slice AI (List.length x1_3) dI) [] (x1_3.map TValue.D)∧(∀q,Blk (.slice AI (List.length x1_3) dI) [] q→wr.heap.size≤q):=fact_ofU hf 10 (by kernel_rfl)
     clear hf
     clear hG
     simp only[Act.put,List.setIfInBounds_toArray,List.set_cons_zero,List.set_cons_succ,List.getElem_toArray,List.getElem_cons_zero,List.getElem_cons_succ]at hK ⊢
     rw[e12]at hK ⊢
     obtain⟨AI,dI,e10,hI,hIl⟩:=e10
     rw[e10]at hK ⊢
     have hbl9:=g0.1.cl.bel
     have hz9:=Bel.size g0.2.2
     go_simp
     go_at_call 34
     refine (specVals_any x1_4 S _ _ _ (Row.bel hbl9 GR1_4.out) (by omega)).mono ?_
     rintro e w2 ⟨vv,rfl,hO,hn,hb2⟩
     obtain⟨AJ,dJ,L9,hvv,-⟩:=hO.ownRow
     rw[List.length_map]at hvv
     subst hvv
     exact hK.out _ _ hb2 ⟨AJ,dJ,rfl,hO,fun q hq=>⟨Nat.le_trans hz9 (hn q hq),by show ¬Blk (u 10) [] q;rw[e10];intro hc;have h1:=hI.lt q hc;have h2:=hn q hq;omega⟩⟩
    case s14 =>
     intro u wa hG hf K hK
     have e3:(u 3)=.int .i64 x1_0:=fact_ofU hf 3 (by kernel_rfl)
     have e5:(u 5)=.int .i64 x1_1:=fact_ofU hf 5 (by kernel_rfl)
     have e7:(u 7)=.int .i64 x1_2:=fact_ofU hf 7 (by kernel_rfl)
     have e10:∃(AI:Option Addr) (dI:Nat),(u 10)=.slice AI (List.length x1_3) dI∧OwnD wa 34 6 (.slice AI (List.length x1_3) dI) [] (x1_3.map TValue.D)∧(∀q,Blk (.slice AI (List.length x1_3) dI) [] q→wr.heap.size≤q):=fact_ofU hf 10 (by kernel_rfl)
     have e13:∃(AJ:Option Addr) (dJ:Nat),(u 13)=.slice AJ (List.length x1_4) dJ∧OwnD wa 34 6 (.slice AJ (List.length x1_4) dJ) [] (x1_4.map TValue.D)∧(∀q,Blk (.slice AJ (List.length x1_4) dJ) [] q→wr.heap.size≤q∧¬Blk (u 10) [] q):=fact_ofU hf 13 (by kernel_rfl)
     clear hf
     clear hG
     simp only[Act.put,List.setIfInBounds_toArray,List.set_cons_zero,List.set_cons_succ,List.getElem_toArray,List.getElem_cons_zero,List.getElem_cons_succ]at hK ⊢
     rw[e3]at hK ⊢
     rw[e5]at hK ⊢
     rw[e7]at hK ⊢
     obtain⟨AI,dI,e10,hI,hIl⟩:=e10
     rw[e10]at hK ⊢
     obtain⟨AJ,dJ,e13,hJ,hJl⟩:=e13
     rw[e13]at hK ⊢
     rw[e10]at hJl
     go_simp
     exact hK.out _ _ (Bel.refl _) ⟨AI,dI,AJ,dJ,rfl,hI,hJ,hIl,hJl⟩
    case s15 =>
     intro u wa hG hf K hK
     have g0:=g0_of hG (by kernel_rfl)
     have e14:∃(AI:Option Addr) (dI:Nat) (AJ:Option Addr) (dJ:Nat),(u 14)=.agg #[.int .i64 x1_0,.int .i64 x1_1,.int .i64 x1_2,.slice AI (List.length x1_3) dI,.slice AJ (List.length x1_4) dJ]∧OwnD wa 34 6 (.slice AI (List.length x1_3) dI) [] (x1_3.map TValue.D)∧OwnD wa 34 6 (.slice AJ (List.length x1_4) dJ) [] (x1_4.map TValue.D)∧(∀q,Blk (.slice AI (List.length x1_3) dI) [] q→wr.heap.size≤q)∧(∀q,Blk (.slice AJ (List.length x1_4) dJ) [] q→wr.heap.size≤q∧¬Blk (.slice AI (List.length x1_3) dI) [] q):=fact_ofU hf 14 (by kernel_rfl)
     clear hf
     clear hG
     simp only[Act.put,List.setIfInBounds_toArray,List.set_cons_zero,List.set_cons_succ,List.getElem_toArray,List.getElem_cons_zero,List.getElem_cons_succ]at hK ⊢
     obtain⟨AI,dI,AJ,dJ,e14,hI,hJ,hIl,hJl⟩:=e14
     rw[e14]at hK ⊢
     have hz9:=Bel.size g0.2.2
     have hbx:Bel wa (wa.alloc (.cells #[.int .i64 x1_0,.int .i64 x1_1,.int .i64 x1_2,.slice AI (List.length x1_3) dI,.slice AJ (List.length x1_4) dJ] 42)):=bl
     go_simp
     exact hK.out _ _ hbx ⟨AI,dI,AJ,dJ,wa.heap.size,rfl,hz9,heap_alloc_new _ _,hI.bel hbx,hJ.bel hbx,hIl,hJl⟩
   case hp =>
    simp only[putP,Act.put,List.setIfInBounds_toArray,List.set_cons_zero,List.set_cons_succ,List.getElem_toArray,List.getElem_cons_zero,List.getElem_cons_succ]
    intro u wa hG hf K hK
    have e1:(u 1)=v:=fact_ofU hf 1 (by kernel_rfl)
    have e15:∃(AI:Option Addr) (dI:Nat) (AJ:Option Addr) (dJ:Nat) (g:Nat),(u 15)=.slice (some ⟨g,0,none⟩) 1 1∧wr.heap.size≤g∧wa.heap[g]?=some (.cells #[.int .i64 x1_0,.int .i64 x1_1,.int .i64 x1_2,.slice AI (List.length x1_3) dI,.slice AJ (List.length x1_4) dJ] 42)∧OwnD wa 34 6 (.slice AI (List.length x1_3) dI) [] (x1_3.map TValue.D)∧OwnD wa 34 6 (.slice AJ (List.length x1_4) dJ) [] (x1_4.map TValue.D)∧(∀q,Blk (.slice AI (List.length x1_3) dI) [] q→wr.heap.size≤q)∧(∀q,Blk (.slice AJ (List.length x1_4) dJ) [] q→wr.heap.size≤q∧¬Blk (.slice AI (List.length x1_3) dI) [] q):=fact_ofU hf 15 (by kernel_rfl)
    clear hf
    rw[e1]at hK ⊢
    obtain⟨AI,dI,AJ,dJ,g,e15,hg1,hg2,hI,hJ,hIl,hJl⟩:=e15
    rw[e15]at hK ⊢
    obtain⟨AI2,cI2,LI,eI,rI,nI2,mI⟩:=hI.ownRow
    obtain⟨AJ2,cJ2,LJ,eJ,rJ,nJ2,mJ⟩:=hJ.ownRow
    simp only[List.length_map]at eI eJ
    injection eI with eI1 eI2 eI3
    injection eJ with eJ1 eJ2 eJ3
    subst eI1 eI3 eJ1 eJ3
    have hov:=TObject.own_mk g1_0 g1_1 g1_2 rI rJ
    have hnd:(LI++LJ).Nodup:=nodup_app nI2 nJ2 (fun a ha hb=>(hJl a (mJ a hb)).2 (mI a ha))
    have hlm:∀a,a∈LI++LJ→wr.heap.size≤a:=fun a ha=>(List.mem_append.1 ha).elim (fun q=>hIl a (mI a q)) (fun q=>(hJl a (mJ a q)).1)
    have hold:=hG.1.cl.ents.own ⟨42,5,v,L,(x2.take i).map TObject.D⟩ (by simp)
    have hlv:=(TA.out.cl.ents.own ⟨42,5,v,L,(x2.take i).map TObject.D⟩ (by simp)).lt
    have hsr:Src wa 5 (some ⟨g,0,none⟩) 1 (LI++LJ) [TObject.D (.mk x1_0 x1_1 x1_2 x1_3 x1_4)] [.int .i64 x1_0,.int .i64 x1_1,.int .i64 x1_2,.slice AI (List.length x1_3) dI,.slice AJ (List.length x1_4) dJ]:=⟨rfl,(fun h=>(by cases h)),⟨LI++LJ,[],[.int .i64 x1_0,.int .i64 x1_1,.int .i64 x1_2,.slice AI (List.length x1_3) dI,.slice AJ (List.length x1_4) dJ],[],by simp,by simp,rfl,hov,rfl,rfl⟩,hnd,fun ad hA j u hu=>by obtain rfl:=Option.some.inj hA;rw[addr_add];unfold World.cell?;simp only[hg2];simpa using hu⟩
    refine wp_append_D (.tmp 31) (.tmp 45) 26 rfl 42 io (.agg #[.int .i64 0,.int .i64 0,.int .i64 0,.slice none 0 0,.slice none 0 0]) 5 72 Tryd.underlying26 hio zo0 zo1 zo2 (by decide) (by decide) hold hsr 1 rfl rfl (fun b hb hm=>by have h1:=hlv b hb;have h2:=hlm b hm;omega) (by rw[List.length_map,List.length_take];omega) (by rw[List.length_map,List.length_take];unfold maxLen;omega) (fun v9 w9 hO9 hg9 hw9=>?_)
    (try simp only[Act.put,List.setIfInBounds_toArray,List.set_cons_zero,List.set_cons_succ,List.getElem_toArray,List.getElem_cons_zero,List.getElem_cons_succ])
    have hz9:=Bel.size hG.2.2
    refine hK.out _ _ ⟨hg9.size,fun k hk hl=>hg9.block k hl (fun e=>by have:=hlv k (Or.inl e.symm);omega)⟩ ⟨wa,hG.2.2,hg9⟩ ⟨LI++LJ,by rw[take_D TObject.D h,HX1.out];first | exact hO9 | (rw[List.map_take];exact hO9),fun q hq=>?_⟩
    rcases hq with hq | hq
    ·
     rcases hw9 q hq with e | e
     ·
      exact Or.inl (Or.inl e)
     ·
      exact Or.inr (by omega)
    ·
     rcases List.mem_append.1 hq with hq | hq
     ·
      exact Or.inl (Or.inr hq)
     ·
      exact Or.inr (hlm q hq)
   case hlast =>
    simp only[putP,Act.put,List.setIfInBounds_toArray,List.set_cons_zero,List.set_cons_succ,List.getElem_toArray,List.getElem_cons_zero,List.getElem_cons_succ]
    intro u wa hG hf K hK
    have e16:∃M:List Nat,OwnD wa 42 5 (u 16) (L++M) ((x2.take (i+1)).map TObject.D)∧∀q,Blk (u 16) (L++M) q→Blk v L q∨wr.heap.size≤q:=hf 16 (by decide)
    have e17:u 17=.pointer (some ⟨(w.heap.size+2),2,none⟩):=hf 17 (by decide)
    clear hf
    obtain⟨M,hO,hbl⟩:=e16
    obtain⟨A9,n9,c9,e16⟩:∃A9 n9 c9,u 16=.slice A9 n9 c9:=by obtain⟨A9,c9,L9,hv9,-⟩:=hO.ownRow;exact⟨_,_,_,hv9⟩
    rw[e16]at hO hbl hK ⊢
    rw[e17]at hK ⊢
    obtain⟨wm,h2,h3⟩:=hG
    have hGR:=ClF.grow (l:=[⟨9,1,(.slice B0 m0 d0),[],x0.map (fun x=>[Dat.str x])⟩,⟨71,3,(.slice B1 m1 d1),L1,x1.map TRecordType.D⟩]) (e:=⟨42,5,v,L,(x2.take i).map TObject.D⟩) (e':=⟨42,5,.slice A9 n9 c9,L++M,(x2.take (i+1)).map TObject.D⟩) TA.out h2 h3 hO hbl
    obtain⟨GB,GN⟩:=hGR
    have HGN:=hide (GN 2 (.slice A9 n9 c9) (GB.put2 _))
    clear GN h2 h3 hO hbl
    obtain⟨hlb8,hfb8,kb8_0,kb8_1,kb8_2,kb8_3,kb8_4,kb8_5,kb8_6,kb8_7,kb8_8,kb8_9,kb8_10,kb8_11,kb8_12⟩:=GB
    go_simp
    refine hK.out undef _ ?_
    clear hK
    go_wp2_with (fail)
    all_goals go_roundw
    case rel=>exact⟨i+1,_,_,by go_num,by omega,hide HGN.out⟩
    case measure=>simp[intOf];omega
  ·
   skip
   have hdc:decide ((i:Int)<(x2.length:Int))=false:=by simp;omega
   have hdn:decide (i<x2.length)=false:=by simp;omega
   obtain⟨B2,m2,d2,rfl⟩:∃A9 n9 c9,v=.slice A9 n9 c9:=by obtain⟨A9,c9,L9,hv9,-⟩:=(HT.out.cl.ents.own ⟨42,5,v,L,(x2.take i).map TObject.D⟩ (by simp)).ownRow;exact⟨_,_,_,hv9⟩
   have T6:=hide (show ClF w (w.heap.size+3) wr (w.heap.size+2) w.heap.size (w.heap.size+1) (.slice B0 m0 d0) (.slice B1 m1 d1) (.slice B2 m2 d2) (.slice A3 x3.length c3) (.string x4) (.int .i64 x5) (.slice A6 x6.length c6) (.slice A7 x7.length c7) (.slice A8 x8.length c8) (.bool x9) (.int .i64 x10) (.int .i64 x11) (.int .i64 x12) (.slice A0 x0.length c0) (.slice A1 x1.length c1) (.slice A2 x2.length c2) (.slice A3 x3.length c3) (.string x4) (.int .i64 x5) (.slice A6 x6.length c6) (.slice A7 x7.length c7) (.slice A8 x8.length c8) (.bool x9) (.int .i64 x10) (.int .i64 x11) (.int .i64 x12) [⟨9,1,(.slice B0 m0 d0),[],x0.map (fun x=>[Dat.str x])⟩,⟨71,3,(.slice B1 m1 d1),L1,x1.map TRecordType.D⟩,⟨42,5,(.slice B2 m2 d2),L,x2.map TObject.D⟩]from by have h:=HT.out;rw[List.take_of_length_le (show x2.length≤i by omega)]at h;exact h)
   clear HT
   obtain⟨hlq,hfq,kq_0,kq_1,kq_2,kq_3,kq_4,kq_5,kq_6,kq_7,kq_8,kq_9,kq_10,kq_11,kq_12⟩:=T6.out.sb
   obtain⟨hlb,hfb,kb_0,kb_1,kb_2,kb_3,kb_4,kb_5,kb_6,kb_7,kb_8,kb_9,kb_10,kb_11,kb_12⟩:=T6.out.cl.box
   go_upto_region 10 with (fail)
   go_upto_region 11 with (go_at_call 34;refine (specVals_any x3 S _ _ _ (Row.bel T6.out.cl.bel HR3.out) hx3).mono ?_;rintro e w9 ⟨v9,rfl,hO9,hn9,hb9⟩;have HO9:=hide hO9;have HN9:=hide hn9;have HB9:=hide hb9;clear hO9 hn9 hb9;obtain⟨B3,m3,d3,rfl⟩:∃A9 n9 c9,v9=.slice A9 n9 c9:=(by obtain⟨A9,c9,L9,hv9,-⟩:=HO9.out.ownRow;exact⟨_,_,_,hv9⟩);have TT9:=hide (T6.out.on HB9.out);obtain⟨hlb9,hfb9,kb9_0,kb9_1,kb9_2,kb9_3,kb9_4,kb9_5,kb9_6,kb9_7,kb9_8,kb9_9,kb9_10,kb9_11,kb9_12⟩:=TT9.out.cl.box)
   clear hlq hfq kq_0 kq_1 kq_2 kq_3 kq_4 kq_5 kq_6 kq_7 kq_8 kq_9 kq_10 kq_11 kq_12 hlb hfb kb_0 kb_1 kb_2 kb_3 kb_4 kb_5 kb_6 kb_7 kb_8 kb_9 kb_10 kb_11 kb_12
   refine wp_named2 fun wq7 hwq7=>?_
   have T7:=hide (show ClF w (w.heap.size+3) wq7 (w.heap.size+2) w.heap.size (w.heap.size+1) (.slice B0 m0 d0) (.slice B1 m1 d1) (.slice B2 m2 d2) (.slice B3 m3 d3) (.string x4) (.int .i64 x5) (.slice A6 x6.length c6) (.slice A7 x7.length c7) (.slice A8 x8.length c8) (.bool x9) (.int .i64 x10) (.int .i64 x11) (.int .i64 x12) (.slice A0 x0.length c0) (.slice A1 x1.length c1) (.slice A2 x2.length c2) (.slice A3 x3.length c3) (.string x4) (.int .i64 x5) (.slice A6 x6.length c6) (.slice A7 x7.length c7) (.slice A8 x8.length c8) (.bool x9) (.int .i64 x10) (.int .i64 x11) (.int .i64 x12) [⟨9,1,(.slice B0 m0 d0),[],x0.map (fun x=>[Dat.str x])⟩,⟨71,3,(.slice B1 m1 d1),L1,x1.map TRecordType.D⟩,⟨42,5,(.slice B2 m2 d2),L,x2.map TObject.D⟩,⟨34,6,(.slice B3 m3 d3),[],x3.map TValue.D⟩]from by rw[←hwq7];exact T6.out.next HB9.out HO9.out HN9.out 3 (TT9.out.cl.box.put3 _))
   clear hwq7 HB9 HO9 HN9 TT9 T6 hlb9 hfb9 kb9_0 kb9_1 kb9_2 kb9_3 kb9_4 kb9_5 kb9_6 kb9_7 kb9_8 kb9_9 kb9_10 kb9_11 kb9_12
   obtain⟨hlq,hfq,kq_0,kq_1,kq_2,kq_3,kq_4,kq_5,kq_6,kq_7,kq_8,kq_9,kq_10,kq_11,kq_12⟩:=T7.out.sb
   obtain⟨hlb,hfb,kb_0,kb_1,kb_2,kb_3,kb_4,kb_5,kb_6,kb_7,kb_8,kb_9,kb_10,kb_11,kb_12⟩:=T7.out.cl.box
   have HO5:=hide (OwnD.lit0 wq7 9 1)
   obtain⟨nw,hsr⟩:=Row.src (strs_flat x6) (Row.bel (Bel.trans T7.out.cl.bel (show Bel wq7 (wq7.alloc (.cells #[] 9))from bl)) HR6.out)
   rw[List.length_map]at hsr
   have HSR:=hide hsr
   clear hsr
   go_wp2_with (at_builtin;refine wpList_append_D rfl (.tmp 52) (.tmp 54) 24 rfl 9 is (.string ByteArray.empty) 1 16 Tryd.underlying24 his zs0 zs1 zs2 (by decide) (by decide) HO5.out HSR.out c6 rfl rfl (fun b _ h=>by cases h) (by simp only[List.length_nil];omega) (by simp only[List.length_nil];unfold maxLen;omega) ?_)
   intro v9 w9 hO9 hg9 hw9
   have HQ:=hide (copy_bel hg9 hw9)
   have HO9:=hide (show OwnD w9 9 1 v9 [] (x6.map (fun x=>[Dat.str x]))from hO9)
   clear hO9 hg9 hw9 HO5 HSR
   clear hlq hfq kq_0 kq_1 kq_2 kq_3 kq_4 kq_5 kq_6 kq_7 kq_8 kq_9 kq_10 kq_11 kq_12 hlb hfb kb_0 kb_1 kb_2 kb_3 kb_4 kb_5 kb_6 kb_7 kb_8 kb_9 kb_10 kb_11 kb_12
   obtain⟨B6,m6,d6,rfl⟩:∃A9 n9 c9,v9=.slice A9 n9 c9:=by obtain⟨A9,c9,L9,hv9,-⟩:=HO9.out.ownRow;exact⟨_,_,_,hv9⟩
   have TT9:=hide (T7.out.on HQ.out.1)
   obtain⟨hlq9,hfq9,kq9_0,kq9_1,kq9_2,kq9_3,kq9_4,kq9_5,kq9_6,kq9_7,kq9_8,kq9_9,kq9_10,kq9_11,kq9_12⟩:=TT9.out.sb
   obtain⟨hlb9,hfb9,kb9_0,kb9_1,kb9_2,kb9_3,kb9_4,kb9_5,kb9_6,kb9_7,kb9_8,kb9_9,kb9_10,kb9_11,kb9_12⟩:=TT9.out.cl.box
   go_upto_region 12 with (fail)
   refine wp_named2 fun wq8 hwq8=>?_
   have T8:=hide (show ClF w (w.heap.size+3) wq8 (w.heap.size+2) w.heap.size (w.heap.size+1) (.slice B0 m0 d0) (.slice B1 m1 d1) (.slice B2 m2 d2) (.slice B3 m3 d3) (.string x4) (.int .i64 x5) (.slice B6 m6 d6) (.slice A7 x7.length c7) (.slice A8 x8.length c8) (.bool x9) (.int .i64 x10) (.int .i64 x11) (.int .i64 x12) (.slice A0 x0.length c0) (.slice A1 x1.length c1) (.slice A2 x2.length c2) (.slice A3 x3.length c3) (.string x4) (.int .i64 x5) (.slice A6 x6.length c6) (.slice A7 x7.length c7) (.slice A8 x8.length c8) (.bool x9) (.int .i64 x10) (.int .i64 x11) (.int .i64 x12) [⟨9,1,(.slice B0 m0 d0),[],x0.map (fun x=>[Dat.str x])⟩,⟨71,3,(.slice B1 m1 d1),L1,x1.map TRecordType.D⟩,⟨42,5,(.slice B2 m2 d2),L,x2.map TObject.D⟩,⟨34,6,(.slice B3 m3 d3),[],x3.map TValue.D⟩,⟨9,1,(.slice B6 m6 d6),[],x6.map (fun x=>[Dat.str x])⟩]from by rw[←hwq8];exact T7.out.next HQ.out.1 HO9.out HQ.out.2 6 (TT9.out.cl.box.put6 _))
   clear hlq9 hfq9 kq9_0 kq9_1 kq9_2 kq9_3 kq9_4 kq9_5 kq9_6 kq9_7 kq9_8 kq9_9 kq9_10 kq9_11 kq9_12 hlb9 hfb9 kb9_0 kb9_1 kb9_2 kb9_3 kb9_4 kb9_5 kb9_6 kb9_7 kb9_8 kb9_9 kb9_10 kb9_11 kb9_12
   clear hwq8 HQ HO9 TT9 T7
   obtain⟨hlq,hfq,kq_0,kq_1,kq_2,kq_3,kq_4,kq_5,kq_6,kq_7,kq_8,kq_9,kq_10,kq_11,kq_12⟩:=T8.out.sb
   obtain⟨hlb,hfb,kb_0,kb_1,kb_2,kb_3,kb_4,kb_5,kb_6,kb_7,kb_8,kb_9,kb_10,kb_11,kb_12⟩:=T8.out.cl.box
   have HO5:=hide (OwnD.lit0 wq8 9 1)
   obtain⟨nw,hsr⟩:=Row.src (strs_flat x7) (Row.bel (Bel.trans T8.out.cl.bel (show Bel wq8 (wq8.alloc (.cells #[] 9))from bl)) HR7.out)
   rw[List.length_map]at hsr
   have HSR:=hide hsr
   clear hsr
   go_wp2_with (at_builtin;refine wpList_append_D rfl (.tmp 57) (.tmp 59) 24 rfl 9 is (.string ByteArray.empty) 1 16 Tryd.underlying24 his zs0 zs1 zs2 (by decide) (by decide) HO5.out HSR.out c7 rfl rfl (fun b _ h=>by cases h) (by simp only[List.length_nil];omega) (by simp only[List.length_nil];unfold maxLen;omega) ?_)
   intro v9 w9 hO9 hg9 hw9
   have HQ:=hide (copy_bel hg9 hw9)
   have HO9:=hide (show OwnD w9 9 1 v9 [] (x7.map (fun x=>[Dat.str x]))from hO9)
   clear hO9 hg9 hw9 HO5 HSR
   clear hlq hfq kq_0 kq_1 kq_2 kq_3 kq_4 kq_5 kq_6 kq_7 kq_8 kq_9 kq_10 kq_11 kq_12 hlb hfb kb_0 kb_1 kb_2 kb_3 kb_4 kb_5 kb_6 kb_7 kb_8 kb_9 kb_10 kb_11 kb_12
   obtain⟨B7,m7,d7,rfl⟩:∃A9 n9 c9,v9=.slice A9 n9 c9:=by obtain⟨A9,c9,L9,hv9,-⟩:=HO9.out.ownRow;exact⟨_,_,_,hv9⟩
   have TT9:=hide (T8.out.on HQ.out.1)
   obtain⟨hlq9,hfq9,kq9_0,kq9_1,kq9_2,kq9_3,kq9_4,kq9_5,kq9_6,kq9_7,kq9_8,kq9_9,kq9_10,kq9_11,kq9_12⟩:=TT9.out.sb
   obtain⟨hlb9,hfb9,kb9_0,kb9_1,kb9_2,kb9_3,kb9_4,kb9_5,kb9_6,kb9_7,kb9_8,kb9_9,kb9_10,kb9_11,kb9_12⟩:=TT9.out.cl.box
   go_upto_region 13 with (fail)
   refine wp_named2 fun wq9 hwq9=>?_
   have T9:=hide (show ClF w (w.heap.size+3) wq9 (w.heap.size+2) w.heap.size (w.heap.size+1) (.slice B0 m0 d0) (.slice B1 m1 d1) (.slice B2 m2 d2) (.slice B3 m3 d3) (.string x4) (.int .i64 x5) (.slice B6 m6 d6) (.slice B7 m7 d7) (.slice A8 x8.length c8) (.bool x9) (.int .i64 x10) (.int .i64 x11) (.int .i64 x12) (.slice A0 x0.length c0) (.slice A1 x1.length c1) (.slice A2 x2.length c2) (.slice A3 x3.length c3) (.string x4) (.int .i64 x5) (.slice A6 x6.length c6) (.slice A7 x7.length c7) (.slice A8 x8.length c8) (.bool x9) (.int .i64 x10) (.int .i64 x11) (.int .i64 x12) [⟨9,1,(.slice B0 m0 d0),[],x0.map (fun x=>[Dat.str x])⟩,⟨71,3,(.slice B1 m1 d1),L1,x1.map TRecordType.D⟩,⟨42,5,(.slice B2 m2 d2),L,x2.map TObject.D⟩,⟨34,6,(.slice B3 m3 d3),[],x3.map TValue.D⟩,⟨9,1,(.slice B6 m6 d6),[],x6.map (fun x=>[Dat.str x])⟩,⟨9,1,(.slice B7 m7 d7),[],x7.map (fun x=>[Dat.str x])⟩]from by rw[←hwq9];exact T8.out.next HQ.out.1 HO9.out HQ.out.2 7 (TT9.out.cl.box.put7 _))
   clear hlq9 hfq9 kq9_0 kq9_1 kq9_2 kq9_3 kq9_4 kq9_5 kq9_6 kq9_7 kq9_8 kq9_9 kq9_10 kq9_11 kq9_12 hlb9 hfb9 kb9_0 kb9_1 kb9_2 kb9_3 kb9_4 kb9_5 kb9_6 kb9_7 kb9_8 kb9_9 kb9_10 kb9_11 kb9_12
   clear hwq9 HQ HO9 TT9 T8
   obtain⟨hlq,hfq,kq_0,kq_1,kq_2,kq_3,kq_4,kq_5,kq_6,kq_7,kq_8,kq_9,kq_10,kq_11,kq_12⟩:=T9.out.sb
   obtain⟨hlb,hfb,kb_0,kb_1,kb_2,kb_3,kb_4,kb_5,kb_6,kb_7,kb_8,kb_9,kb_10,kb_11,kb_12⟩:=T9.out.cl.box
   have HO5:=hide (OwnD.lit0 wq9 53 2)
   obtain⟨nw,hsr⟩:=Row.src (act_flat x8) (Row.bel (Bel.trans T9.out.cl.bel (show Bel wq9 (wq9.alloc (.cells #[] 53))from bl)) HR8.out)
   rw[List.length_map]at hsr
   have HSR:=hide hsr
   clear hsr
   go_wp2_with (at_builtin;refine wpList_append_D rfl (.tmp 62) (.tmp 64) 28 rfl 53 ia (.agg #[.int .i64 0,.int .i64 0]) 2 16 Tryd.underlying28 hia za0 za1 za2 (by decide) (by decide) HO5.out HSR.out c8 rfl rfl (fun b _ h=>by cases h) (by simp only[List.length_nil];omega) (by simp only[List.length_nil];unfold maxLen;omega) ?_)
   intro v9 w9 hO9 hg9 hw9
   have HQ:=hide (copy_bel hg9 hw9)
   have HO9:=hide (show OwnD w9 53 2 v9 [] (x8.map TActive.D)from hO9)
   clear hO9 hg9 hw9 HO5 HSR
   clear hlq hfq kq_0 kq_1 kq_2 kq_3 kq_4 kq_5 kq_6 kq_7 kq_8 kq_9 kq_10 kq_11 kq_12 hlb hfb kb_0 kb_1 kb_2 kb_3 kb_4 kb_5 kb_6 kb_7 kb_8 kb_9 kb_10 kb_11 kb_12
   obtain⟨B8,m8,d8,rfl⟩:∃A9 n9 c9,v9=.slice A9 n9 c9:=by obtain⟨A9,c9,L9,hv9,-⟩:=HO9.out.ownRow;exact⟨_,_,_,hv9⟩
   have TT9:=hide (T9.out.on HQ.out.1)
   obtain⟨hlq9,hfq9,kq9_0,kq9_1,kq9_2,kq9_3,kq9_4,kq9_5,kq9_6,kq9_7,kq9_8,kq9_9,kq9_10,kq9_11,kq9_12⟩:=TT9.out.sb
   obtain⟨hlb9,hfb9,kb9_0,kb9_1,kb9_2,kb9_3,kb9_4,kb9_5,kb9_6,kb9_7,kb9_8,kb9_9,kb9_10,kb9_11,kb9_12⟩:=TT9.out.cl.box
   go_upto_region 14 with (fail)
   refine wp_named2 fun wq10 hwq10=>?_
   have T10:=hide (show ClF w (w.heap.size+3) wq10 (w.heap.size+2) w.heap.size (w.heap.size+1) (.slice B0 m0 d0) (.slice B1 m1 d1) (.slice B2 m2 d2) (.slice B3 m3 d3) (.string x4) (.int .i64 x5) (.slice B6 m6 d6) (.slice B7 m7 d7) (.slice B8 m8 d8) (.bool x9) (.int .i64 x10) (.int .i64 x11) (.int .i64 x12) (.slice A0 x0.length c0) (.slice A1 x1.length c1) (.slice A2 x2.length c2) (.slice A3 x3.length c3) (.string x4) (.int .i64 x5) (.slice A6 x6.length c6) (.slice A7 x7.length c7) (.slice A8 x8.length c8) (.bool x9) (.int .i64 x10) (.int .i64 x11) (.int .i64 x12) [⟨9,1,(.slice B0 m0 d0),[],x0.map (fun x=>[Dat.str x])⟩,⟨71,3,(.slice B1 m1 d1),L1,x1.map TRecordType.D⟩,⟨42,5,(.slice B2 m2 d2),L,x2.map TObject.D⟩,⟨34,6,(.slice B3 m3 d3),[],x3.map TValue.D⟩,⟨9,1,(.slice B6 m6 d6),[],x6.map (fun x=>[Dat.str x])⟩,⟨9,1,(.slice B7 m7 d7),[],x7.map (fun x=>[Dat.str x])⟩,⟨53,2,(.slice B8 m8 d8),[],x8.map TActive.D⟩]from by rw[←hwq10];exact T9.out.next HQ.out.1 HO9.out HQ.out.2 8 (TT9.out.cl.box.put8 _))
   clear hlq9 hfq9 kq9_0 kq9_1 kq9_2 kq9_3 kq9_4 kq9_5 kq9_6 kq9_7 kq9_8 kq9_9 kq9_10 kq9_11 kq9_12 hlb9 hfb9 kb9_0 kb9_1 kb9_2 kb9_3 kb9_4 kb9_5 kb9_6 kb9_7 kb9_8 kb9_9 kb9_10 kb9_11 kb9_12
   clear hwq10 HQ HO9 TT9 T9
   have HRB:=hide T10.out.rb
   obtain⟨hlq,hfq,kq_0,kq_1,kq_2,kq_3,kq_4,kq_5,kq_6,kq_7,kq_8,kq_9,kq_10,kq_11,kq_12⟩:=T10.out.sb
   obtain⟨hlb,hfb,kb_0,kb_1,kb_2,kb_3,kb_4,kb_5,kb_6,kb_7,kb_8,kb_9,kb_10,kb_11,kb_12⟩:=T10.out.cl.box
   refine wp_region_lit ?_
   refine wpList_plain rfl fun K hK=>?_
   go_simp
   refine hK _ _ ?_
   refine wpList_store_mid rfl 30 (.tmp 2) (.tmp 67) rfl (w.heap.size+1) 0 #[.slice B0 m0 d0,.slice B1 m1 d1,.slice B2 m2 d2,.slice B3 m3 d3,.string x4,.int .i64 x5,.slice B6 m6 d6,.slice B7 m7 d7,.slice B8 m8 d8,.bool x9,.int .i64 x10,.int .i64 x11,.int .i64 x12] rfl rfl HRB.out.there (by kernel_rfl) (by simp[Value.oneCell']) ?_
   refine wpList_namedF fun wz hwz=>?_
   replace hwz:wz=(((((((((((((wq10.setCell ⟨w.heap.size+1,0,none⟩ (.slice B0 m0 d0)).setCell ⟨w.heap.size+1,1,none⟩ (.slice B1 m1 d1)).setCell ⟨w.heap.size+1,2,none⟩ (.slice B2 m2 d2)).setCell ⟨w.heap.size+1,3,none⟩ (.slice B3 m3 d3)).setCell ⟨w.heap.size+1,4,none⟩ (.string x4)).setCell ⟨w.heap.size+1,5,none⟩ (.int .i64 x5)).setCell ⟨w.heap.size+1,6,none⟩ (.slice B6 m6 d6)).setCell ⟨w.heap.size+1,7,none⟩ (.slice B7 m7 d7)).setCell ⟨w.heap.size+1,8,none⟩ (.slice B8 m8 d8)).setCell ⟨w.heap.size+1,9,none⟩ (.bool x9)).setCell ⟨w.heap.size+1,10,none⟩ (.int .i64 x10)).setCell ⟨w.heap.size+1,11,none⟩ (.int .i64 x11)).setCell ⟨w.heap.size+1,12,none⟩ (.int .i64 x12)):=hwz
   have hsame:∀y,(w.heap.size+1)≠y→wz.heap[y]?=wq10.heap[y]?:=fun y hy=>by rw[hwz,set_block 12 _ hy,set_block 11 _ hy,set_block 10 _ hy,set_block 9 _ hy,set_block 8 _ hy,set_block 7 _ hy,set_block 6 _ hy,set_block 5 _ hy,set_block 4 _ hy,set_block 3 _ hy,set_block 2 _ hy,set_block 1 _ hy,set_block 0 _ hy]
   have hsz:wz.heap.size=wq10.heap.size:=by rw[hwz];simp
   have PZ:SB wz (w.heap.size+1) (.slice B0 m0 d0) (.slice B1 m1 d1) (.slice B2 m2 d2) (.slice B3 m3 d3) (.string x4) (.int .i64 x5) (.slice B6 m6 d6) (.slice B7 m7 d7) (.slice B8 m8 d8) (.bool x9) (.int .i64 x10) (.int .i64 x11) (.int .i64 x12):=by rw[hwz];exact ((((((((((((HRB.out.put0 _).put1 _).put2 _).put3 _).put4 _).put5 _).put6 _).put7 _).put8 _).put9 _).put10 _).put11 _).put12 _
   have hbz:Bel w wz:=by rw[hwz];exact (Below.setCell (Below.setCell (Below.setCell (Below.setCell (Below.setCell (Below.setCell (Below.setCell (Below.setCell (Below.setCell (Below.setCell (Below.setCell (Below.setCell (Below.setCell T10.out.cl.bel (show w.heap.size≤w.heap.size+1 by omega) _) (show w.heap.size≤w.heap.size+1 by omega) _) (show w.heap.size≤w.heap.size+1 by omega) _) (show w.heap.size≤w.heap.size+1 by omega) _) (show w.heap.size≤w.heap.size+1 by omega) _) (show w.heap.size≤w.heap.size+1 by omega) _) (show w.heap.size≤w.heap.size+1 by omega) _) (show w.heap.size≤w.heap.size+1 by omega) _) (show w.heap.size≤w.heap.size+1 by omega) _) (show w.heap.size≤w.heap.size+1 by omega) _) (show w.heap.size≤w.heap.size+1 by omega) _) (show w.heap.size≤w.heap.size+1 by omega) _) (show w.heap.size≤w.heap.size+1 by omega) _)
   have hez:Ents w.heap.size wz [⟨9,1,(.slice B0 m0 d0),[],x0.map (fun x=>[Dat.str x])⟩,⟨71,3,(.slice B1 m1 d1),L1,x1.map TRecordType.D⟩,⟨42,5,(.slice B2 m2 d2),L,x2.map TObject.D⟩,⟨34,6,(.slice B3 m3 d3),[],x3.map TValue.D⟩,⟨9,1,(.slice B6 m6 d6),[],x6.map (fun x=>[Dat.str x])⟩,⟨9,1,(.slice B7 m7 d7),[],x7.map (fun x=>[Dat.str x])⟩,⟨53,2,(.slice B8 m8 d8),[],x8.map TActive.D⟩]:=(T10.out.cl.ents.keep (by omega) (fun e he x hx=>hsame x (by have:=T10.out.cl.ents.low e he x hx;omega))).weak (by omega)
   clear hlq hfq kq_0 kq_1 kq_2 kq_3 kq_4 kq_5 kq_6 kq_7 kq_8 kq_9 kq_10 kq_11 kq_12 hlb hfb kb_0 kb_1 kb_2 kb_3 kb_4 kb_5 kb_6 kb_7 kb_8 kb_9 kb_10 kb_11 kb_12
   obtain⟨-,-,e0,e1,e2,e3,e4,e5,e6,e7,e8,e9,e10,e11,e12⟩:=PZ
   clear hwz HRB hsame hsz
   refine wpList_nil ?_
   go_simp
   rename_i hKr
   refine hKr _ _ ?_
   clear hKr hK
   refine wp_ret ?_
   exact bodyPost_ret (v:=.agg #[.slice B0 m0 d0,.slice B1 m1 d1,.slice B2 m2 d2,.slice B3 m3 d3,.string x4,.int .i64 x5,.slice B6 m6 d6,.slice B7 m7 d7,.slice B8 m8 d8,.bool x9,.int .i64 x10,.int .i64 x11,.int .i64 x12]) (by simp[results,Tryd.results16,e0,e1,e2,e3,e4,e5,e6,e7,e8,e9,e10,e11,e12,go_sem];try rfl) rfl ⟨_,_,_,_,_,_,_,_,_,_,_,_,_,_,rfl,hez,hbz⟩
end Go.Proofs.YtoikhhnmbbbjjaaDoor
namespace Go.Proofs.YtoikhhnmbbbjjaaDoor
set_option linter.unusedVariables false
set_option linter.unusedSimpArgs false
set_option maxRecDepth 100000
open Go.RowKit
def updB (s:Nat→Bool) (i:Nat):Nat→Bool:=fun j=>if j=i then true else s j
theorem updB_set {listed:Array Bool} {i:Nat} (hi:i<listed.size):(fun j=>(listed.setIfInBounds i true).getD j false)=updB (fun j=>listed.getD j false) i:=by
 funext j
 unfold updB
 by_cases h:j=i
 ·
  subst h
  rw[if_pos rfl,getD_true_of (by simpa using hi),Array.getElem_setIfInBounds_self]
 ·
  rw[if_neg h]
  exact getD_set_ne false (fun e=>h e.symm)
section
variable {P:Program} {ops:Array Oper} {Q:Exit→Act→World→Prop}
def StV (ops:Array Oper) (dep:Nat→List Nat) (φ:Nat→(Nat→Value)→World→Prop) (G0:(Nat→Bool)→(Nat→Value)→World→Prop) (G1:World→Prop) (p:Nat) (base:Act) (listed:Array Bool) (a:Act) (w:World):Prop :=
 ∃u,a=putF u (dsts ops) 0 base∧(listed.getD p false=false→G0 (fun j=>listed.getD j false) u w)∧(listed.getD p false=true→G1 w)∧∀j,listed.getD j false=true→φ j (maskU dep j u) w
def StepV (P:Program) (ops:Array Oper) (Q:Exit→Act→World→Prop) (dep:Nat→List Nat) (φ:Nat→(Nat→Value)→World→Prop) (R:World→World→Prop) (I0:List Nat) (G0:(Nat→Bool)→(Nat→Value)→World→Prop) (G1:World→Prop) (p:Nat) (T:(Nat→Value)→Act) (i:Nat) (o:Oper):Prop :=
 ∀(u:Nat→Value) (w:World),(∃s:Nat→Bool,s i=false∧G0 s u w)∨(G1 w∧(aheadOf ops 12 [p]).contains i=false)→(∀j,(aheadOf ops 12 (waitsFor ops i)).contains j=true→φ j (maskU dep j u) w)→∀K:Act→World→Prop,
  Shut (∀v w',R w w'→φ i (maskU dep i (updF u i v)) w'→(I0.contains i=true→∀s:Nat→Bool,s i=false→(∀j,(aheadOf ops 12 (waitsFor ops i)).contains j=true→s j=true)→G0 s u w→G0 (updB s i) (updF u i v) w')→K ((T u).put o.dst v) w')→Oper.wp P o (T u) w K Q
theorem stepsV_nil {ops:Array Oper} {dep:Nat→List Nat} {φ:Nat→(Nat→Value)→World→Prop} {R:World→World→Prop} {I0:List Nat} {G0:(Nat→Bool)→(Nat→Value)→World→Prop} {G1:World→Prop} {p:Nat} {T:(Nat→Value)→Act} {i m:Nat} (h:m≤i):∀j,i≤j→j<m→∀o,ops[j]?=some o→j≠p→StepV P ops Q dep φ R I0 G0 G1 p T j o:=fun j h1 h2=>by omega
theorem stepsV_skip {ops:Array Oper} {dep:Nat→List Nat} {φ:Nat→(Nat→Value)→World→Prop} {R:World→World→Prop} {I0:List Nat} {G0:(Nat→Bool)→(Nat→Value)→World→Prop} {G1:World→Prop} {p p2:Nat} {T:(Nat→Value)→Act} {m:Nat}
  (hs:∀j,p2≤j→j<m→∀o,ops[j]?=some o→j≠p→StepV P ops Q dep φ R I0 G0 G1 p T j o) (h2:p2=p+1:=by rfl):∀j,p≤j→j<m→∀o,ops[j]?=some o→j≠p→StepV P ops Q dep φ R I0 G0 G1 p T j o:=fun j h1 h3 o ho hp=>hs j (by omega) h3 o ho hp
theorem stepsV_cons {ops:Array Oper} {dep:Nat→List Nat} {φ:Nat→(Nat→Value)→World→Prop} {R:World→World→Prop} {I0:List Nat} {G0:(Nat→Bool)→(Nat→Value)→World→Prop} {G1:World→Prop} {p:Nat} {T:(Nat→Value)→Act} {i i2 m:Nat} {o:Oper} (ho:ops[i]?=some o) (h:StepV P ops Q dep φ R I0 G0 G1 p T i o)
  (hs:∀j,i2≤j→j<m→∀o,ops[j]?=some o→j≠p→StepV P ops Q dep φ R I0 G0 G1 p T j o) (hi:i2=i+1:=by rfl):∀j,i≤j→j<m→∀o,ops[j]?=some o→j≠p→StepV P ops Q dep φ R I0 G0 G1 p T j o:=fun j h1 h2 o' ho' hp=>by
 rcases Nat.lt_or_ge i j with h3 | h3
 ·
  exact hs j (by omega) h2 o' ho' hp
 ·
  obtain rfl:j=i:=by omega
  rw[ho]at ho'
  obtain rfl:=Option.some.inj ho'
  exact h
theorem wp_region_factsV {id:Nat} {base:Act} {w:World} (m p:Nat) (dep:Nat→List Nat) (φ:Nat→(Nat→Value)→World→Prop) (R R':World→World→Prop) (I0:List Nat) (G0:(Nat→Bool)→(Nat→Value)→World→Prop) (G1:World→Prop) (ds:List (Nat × Option Tmp)) {op ol:Oper} (hds:idxD (dsts ops) 0=ds)
  (hf:formOk ops m=true) (hdp:depOk ops dep m=true) (hm:P.follows .mixedOrders=true) (hpm:p<m) (hG:∀u,G0 (fun _=>false) u w.drew) (hR:∀j (v:Nat→Value) w w',R w w'→φ j v w→φ j v w') (hR':∀j (v:Nat→Value) w w',j≠p→R' w w'→φ j v w→φ j v w') (hG0:∀i s u v w w',I0.contains i=false→R w w'→G0 s u w→G0 (updB s i) (updF u i v) w') (hG1:∀w w',R w w'→G1 w→G1 w')
  (hop:ops[p]?=some op) (hol:ops[m]?=some ol)
  (hstep:∀i,0≤i→i<m→∀o,ops[i]?=some o→i≠p→StepV P ops Q dep φ R I0 G0 G1 p (fun u=>putP u ds base) i o)
  (hp:∀(u:Nat→Value) (w:World),(∃s:Nat→Bool,(∀j,(aheadOf ops 12 (waitsFor ops p)).contains j=true→s j=true)∧G0 s u w)→(∀j,(aheadOf ops 12 (waitsFor ops p)).contains j=true→φ j (maskU dep j u) w)→∀K:Act→World→Prop,
   Shut (∀v w',R' w w'→G1 w'→φ p (maskU dep p (updF u p v)) w'→K ((putP u ds base).put op.dst v) w') →
   Oper.wp P op (putP u ds base) w K Q)
  (hlast:∀(u:Nat→Value) (w:World),G1 w→(∀j,j<m→φ j (maskU dep j u) w)→∀K:Act→World→Prop,
   Shut (∀v w',Q .normal ((putP u ds base).put ol.dst v) w'→K ((putP u ds base).put ol.dst v) w') →
   Oper.wp P ol (putP u ds base) w K Q):(Code.region id ops true).wp P Q base w:=by
 subst hds
 simp only[putP_idx]at hstep hp hlast
 unfold depOk at hdp
 simp only[List.all_eq_true,List.mem_range]at hdp
 unfold formOk at hf
 simp only[Bool.and_eq_true,List.all_eq_true,List.mem_range,decide_eq_true_eq]at hf
 obtain⟨⟨⟨⟨hw,hap⟩,hall⟩,hsz⟩,hgd⟩:=hf
 have plain:∀(i:Nat) (o:Oper) (y:Nat→Option Bool),ops[i]?=some o→Region.wanted o y=true:=fun i o y ho=>by
  have h1:=hgd o (Array.mem_toList_iff.2 (Array.mem_of_getElem? ho))
  unfold Region.wanted
  cases hq:o.guard with
  | none=>rfl
  | some q=>rw[hq]at h1;cases h1
 have hlt:∀j,j<ops.size→∀k∈waitsFor ops j,k<j:=fun j hj k hk=>hw j hj k hk
 have hmem:∀listed:Array Bool,ClosedL ops listed→listed.getD m false=true→∀j,j<m→listed.getD j false=true:=fun listed hc h j hj =>
  ahead_closed hc 12 [m] (fun k hk=>by rw[List.mem_singleton.1 hk];exact h) j (by have:=hall j hj;simpa using this)
 have key:∀(fuel:Nat) (listed:Array Bool) (a:Act) (w:World),listed.size=ops.size→ClosedL ops listed→listed.getD m false=false→StV ops dep φ G0 G1 p base listed a w→(List.range ops.size).countP (fun j=>!listed.getD j true)≤fuel→wpAny P .any ops Q fuel listed a w:=by
  intro fuel
  induction fuel with
  | zero =>
   intro listed a w hs hc hl hI hn
   exfalso
   have h0:(List.range ops.size).countP (fun j=>!listed.getD j true)=0:=by omega
   rw[List.countP_eq_zero]at h0
   have:=h0 m (List.mem_range.2 (by omega))
   rw[getD_true_of (by omega)]at this hl
   rw[hl]at this
   exact this rfl
  | succ fuel ih =>
   intro listed a w hs hc hl hI hn
   refine⟨fun hr=>?_,fun i hi=>?_⟩
   ·
    have:=ready_nil hlt hs hr (m+1) m (by omega) (by omega)
    rw[this]at hl
    cases hl
   ·
    obtain⟨hjun,o,ho,-⟩:=mem_ready.1 hi
    have hi1:i<ops.size:=(Array.getElem?_eq_some_iff.1 ho).1
    have hif:listed.getD i false=false:=by rw[getD_true_of (by omega)]at hjun ⊢;exact hjun
    obtain⟨u,rfl,hg0,hg1,hφ⟩:=hI
    have hd:(dsts ops)[i]?=some o.dst:=by
     unfold dsts
     rw[List.getElem?_map,Array.getElem?_toList,ho]
     rfl
    have hput:∀v,(putF u (dsts ops) 0 base).put o.dst v=putF (updF u i v) (dsts ops) 0 base:=fun v=>by
     have:=putF_upd (u:=u) v (dsts ops) 0 i o.dst base hap hd
     rwa [Nat.zero_add]at this
    have hs2:(listed.setIfInBounds i true).size=ops.size:=by simpa using hs
    have hself:(listed.setIfInBounds i true).getD i false=true:=by rw[getD_true_of (by omega),Array.getElem_setIfInBounds_self]
    have hcn:(List.range ops.size).countP (fun j=>!(listed.setIfInBounds i true).getD j true)≤fuel:=by
     have:(List.range ops.size).countP (fun j=>!(listed.setIfInBounds i true).getD j true)<(List.range ops.size).countP (fun j=>!listed.getD j true):=by
      refine countP_lt (List.mem_range.2 hi1) (by rw[hjun];rfl) ?_ (fun j hj=>?_)
      ·
       rw[getD_true_of (by omega),Array.getElem_setIfInBounds_self]
       rfl
      ·
       by_cases h:i=j
       ·
        subst h;rw[hjun];rfl
       ·
        rw[getD_set_ne true h]at hj;exact hj
     omega
    have hjm:∀j,listed.getD j false=true→j<m:=fun j hj=>by
     rcases Nat.lt_or_ge j ops.size with h | h
     ·
      rcases Nat.lt_or_ge j m with h2 | h2
      ·
       exact h2
      ·
       obtain rfl:j=m:=by omega
       rw[hl]at hj;cases hj
     ·
      rw[Array.getD_eq_getD_getElem?,Array.getElem?_eq_none (by omega)]at hj
      cases hj
    have hdep:∀j,listed.getD j false=true→(dep j).contains i=false:=fun j hj=>by
     cases hb:(dep j).contains i with
     | false=>rfl
     | true =>
      have h3:=hdp j (hjm j hj) i (by simpa using hb)
      have h4:=ahead_closed hc 12 (waitsFor ops j) (fun k hk=>hc j hj k hk) i (by simpa using h3)
      rw[hif]at h4;cases h4
    have hfacts:∀j,(aheadOf ops 12 (waitsFor ops i)).contains j=true→φ j (maskU dep j u) w:=fun j hj=>hφ j (ahead_closed hc 12 _ (waits_ready hi) j (by simpa using hj))
    have nextφ:∀(v:Value) w',φ i (maskU dep i (updF u i v)) w'→(∀j,j≠i→listed.getD j false=true→φ j (maskU dep j u) w')→∀j,(listed.setIfInBounds i true).getD j false=true→φ j (maskU dep j (updF u i v)) w':=fun v w' hv hk j hj=>by
     by_cases h:i=j
     ·
      subst h
      exact hv
     ·
      rw[getD_set_ne false h]at hj
      rw[maskU_upd (fun e=>h e.symm) (hdep j hj)]
      exact hk j (fun e=>h e.symm) hj
    by_cases him:i=m
    ·
     subst him
     have hol':o=ol:=by rw[ho]at hol;exact Option.some.inj hol
     subst hol'
     have hall4:∀j,j<i→listed.getD j false=true:=fun j hj=>by
      have h3:=hmem _ (closed_set hc hi) hself j hj
      rwa [getD_set_ne false (by omega)]at h3
     have hall2:∀j,j<i→φ j (maskU dep j u) w:=fun j hj=>hφ j (hall4 j hj)
     have hall3:∀j,j<ops.size→(listed.setIfInBounds i true).getD j false=true:=fun j hj=>by
      rcases Nat.lt_or_ge j i with h | h
      ·
       exact hmem _ (closed_set hc hi) hself j h
      ·
       obtain rfl:j=i:=by omega
       exact hself
     have hnil:Region.ready .any ops (listed.setIfInBounds i true)=[]:=by
      refine List.eq_nil_iff_forall_not_mem.2 fun k hk=>?_
      obtain⟨h1,ok,hok,-⟩:=mem_ready.1 hk
      have hk1:k<ops.size:=(Array.getElem?_eq_some_iff.1 hok).1
      have h2:=hall3 k hk1
      rw[getD_true_of (by omega)]at h1 h2
      rw[h2]at h1
      cases h1
     exact wpOp_step ho fun K' hK=>(if_pos (plain _ _ _ ho)).mpr <| hlast u w (hg1 (hall4 p hpm)) hall2 K' (fun v w' hq=>hK _ _ (wpAny_done hnil hq _))
    ·
     have him2:(listed.setIfInBounds i true).getD m false=false:=by rw[getD_set_ne false him];exact hl
     by_cases hip:i=p
     ·
      subst hip
      have hop':o=op:=by rw[ho]at hop;exact Option.some.inj hop
      subst hop'
      refine wpOp_step ho fun K' hK=>(if_pos (plain _ _ _ ho)).mpr <| hp u w ⟨_,fun j hj=>ahead_closed hc 12 _ (waits_ready hi) j (by simpa using hj),hg0 hif⟩ hfacts K' (fun v w' hRw hGw hv=>hK _ _ ?_)
      exact ih _ _ _ hs2 (closed_set hc hi) him2 ⟨updF u i v,hput v,fun h=>(by rw[hself]at h;cases h),fun _=>hGw,nextφ v w' hv (fun j hj hl=>hR' j _ _ _ hj hRw (hφ j hl))⟩ hcn
     ·
      refine wpOp_step ho fun K' hK=>(if_pos (plain _ _ _ ho)).mpr <| hstep i (Nat.zero_le _) (by omega) o ho hip u w ?_ hfacts K' (fun v w' hRw hv hGi=>hK _ _ ?_)
      ·
       cases hpl:listed.getD p false with
       | false=>exact Or.inl ⟨_,hif,hg0 hpl⟩
       | true =>
        refine Or.inr ⟨hg1 hpl,?_⟩
        cases hb:(aheadOf ops 12 [p]).contains i with
        | false=>rfl
        | true =>
         have h3:=ahead_closed hc 12 [p] (fun k hk=>by rw[List.mem_singleton.1 hk];exact hpl) i (by simpa using hb)
         rw[hif]at h3
         cases h3
      ·
       have hpe:(listed.setIfInBounds i true).getD p false=listed.getD p false:=getD_set_ne false hip
       exact ih _ _ _ hs2 (closed_set hc hi) him2 ⟨updF u i v,hput v,fun h=>(by
        rw[show (fun j=>(listed.setIfInBounds i true).getD j false)=updB (fun j=>listed.getD j false) i from updB_set (by omega)]
        have hgh:=hg0 (by rw[hpe]at h;exact h)
        cases hI:I0.contains i with
        | false=>exact hG0 _ _ _ _ _ _ hI hRw hgh
        | true=>exact hGi hI _ hif (fun j hj=>ahead_closed hc 12 _ (waits_ready hi) j (by simpa using hj)) hgh),fun h=>hG1 _ _ hRw (hg1 (by rw[hpe]at h;exact h)),nextφ v w' hv (fun j hj hl=>hR j _ _ _ hRw (hφ j hl))⟩ hcn
 have hrep:∀j,(Array.replicate ops.size false).getD j false=true→False:=fun j hj=>by
  by_cases h:j<ops.size
  ·
   rw[getD_true_of (by simpa using h)]at hj;simp at hj
  ·
   simp[Array.getElem?_eq_none (show (Array.replicate ops.size false).size≤j by simpa using h)]at hj
 refine wp_region_any hm (key ops.size _ _ _ (by simp) (fun j hj=>(hrep j hj).elim) ?_ ⟨fun j=>(((dsts ops)[j]?.getD none).map (fun t=>base.tmps.getD t undef)).getD undef,?_,fun _=>(by rw[show (fun j=>(Array.replicate ops.size false).getD j false)=(fun _=>false)from funext fun j=>(by cases hq:(Array.replicate ops.size false).getD j false with | false=>rfl | true=>exact (hrep j hq).elim)];exact hG _),fun h=>(hrep p h).elim,fun j hj=>(hrep j hj).elim⟩ ?_)
 ·
  rw[getD_true_of (by simp;omega)];simp
 ·
  symm
  refine putF_same base (dsts ops) 0 _ fun i d hd=>?_
  simp only[Nat.zero_add,hd,Option.getD_some]
 ·
  have:=List.countP_le_length (l:=List.range ops.size) (p:=fun j=>!(Array.replicate ops.size false).getD j true)
  simpa using this
theorem or_ofV {X Y:Prop} {c:Bool} (h:X∨(Y∧c=false)) (hc:c=true):X:=by
 rcases h with h | h
 ·
  exact h
 ·
  rw[hc]at h;cases h.2
end
def SepJ (A C:List Nat) (s:Nat→Bool) (u:Nat→Value) (w:World):Prop :=
 (∀a,a∈A++C→s a=true→∀b,(u a).ownBlock=some b→b<w.heap.size)∧∀a,a∈A→∀c,c∈C→s a=true→s c=true→∀b,(u a).ownBlock=some b→(u c).ownBlock≠some b
theorem SepJ.none {A C:List Nat} {u:Nat→Value} {w:World}:SepJ A C (fun _=>false) u w:=⟨fun _ _ h=>(by cases h),fun _ _ _ _ h=>(by cases h)⟩
theorem SepJ.on {A C:List Nat} {s:Nat→Bool} {u:Nat→Value} {w w':World} (h:SepJ A C s u w) (hs:w.heap.size≤w'.heap.size):SepJ A C s u w':=⟨fun a ha hb b hc=>Nat.lt_of_lt_of_le (h.1 a ha hb b hc) hs,h.2⟩
theorem SepJ.skip {A C:List Nat} {s:Nat→Bool} {u:Nat→Value} {w w':World} {i:Nat} {v:Value} (hi:(A++C).contains i=false) (h:SepJ A C s u w) (hs:w.heap.size≤w'.heap.size):SepJ A C (updB s i) (updF u i v) w':=by
 have ne:∀a,a∈A++C→a≠i:=fun a ha e=>by subst e;rw[List.contains_iff_mem.2 ha]at hi;cases hi
 have e1:∀a,a∈A++C→updB s i a=s a:=fun a ha=>if_neg (ne a ha)
 have e2:∀a,a∈A++C→updF u i v a=u a:=fun a ha=>if_neg (ne a ha)
 refine⟨fun a ha hb b hc=>?_,fun a ha c hc h1 h2 b h3 h4=>?_⟩
 ·
  rw[e1 a ha]at hb
  rw[e2 a ha]at hc
  exact Nat.lt_of_lt_of_le (h.1 a ha hb b hc) hs
 ·
  have m1:=List.mem_append.2 (Or.inl ha:a∈A∨a∈C)
  have m2:=List.mem_append.2 (Or.inr hc:c∈A∨c∈C)
  rw[e1 a m1]at h1
  rw[e1 c m2]at h2
  rw[e2 a m1]at h3
  rw[e2 c m2]at h4
  exact h.2 a ha c hc h1 h2 b h3 h4
theorem SepJ.newA {A C:List Nat} {s:Nat→Bool} {u:Nat→Value} {w w':World} {i:Nat} {v:Value} (hi:C.contains i=false) (h:SepJ A C s u w) (hs:w.heap.size≤w'.heap.size) (hv:∀b,v.ownBlock=some b→b<w'.heap.size∧((∃a,a∈A∧s a=true∧(u a).ownBlock=some b)∨w.heap.size≤b)):SepJ A C (updB s i) (updF u i v) w':=by
 have nC:∀c,c∈C→c≠i:=fun a ha e=>by subst e;rw[List.contains_iff_mem.2 ha]at hi;cases hi
 refine⟨fun a ha hb b hc=>?_,fun a ha c hc h1 h2 b h3 h4=>?_⟩
 ·
  by_cases e:a=i
  ·
   subst e
   unfold updF at hc
   rw[if_pos rfl]at hc
   exact (hv b hc).1
  ·
   unfold updB at hb
   unfold updF at hc
   rw[if_neg e]at hb hc
   exact Nat.lt_of_lt_of_le (h.1 a ha hb b hc) hs
 ·
  unfold updB at h2
  unfold updF at h4
  rw[if_neg (nC c hc)]at h2 h4
  by_cases e:a=i
  ·
   subst e
   unfold updF at h3
   rw[if_pos rfl]at h3
   rcases (hv b h3).2 with⟨a2,q1,q2,q3⟩ | q
   ·
    exact h.2 a2 q1 c hc q2 h2 b q3 h4
   ·
    have:=h.1 c (List.mem_append.2 (Or.inr hc)) h2 b h4
    omega
  ·
   unfold updB at h1
   unfold updF at h3
   rw[if_neg e]at h1 h3
   exact h.2 a ha c hc h1 h2 b h3 h4
theorem SepJ.swap {A C:List Nat} {s:Nat→Bool} {u:Nat→Value} {w:World} (h:SepJ A C s u w):SepJ C A s u w :=
 ⟨fun a ha=>h.1 a (List.mem_append.2 ((List.mem_append.1 ha).symm)),fun a ha c hc h1 h2 b h3 h4=>h.2 c hc a ha h2 h1 b h4 h3⟩
theorem SepJ.newC {A C:List Nat} {s:Nat→Bool} {u:Nat→Value} {w w':World} {i:Nat} {v:Value} (hi:A.contains i=false) (h:SepJ A C s u w) (hs:w.heap.size≤w'.heap.size) (hv:∀b,v.ownBlock=some b→b<w'.heap.size∧((∃a,a∈C∧s a=true∧(u a).ownBlock=some b)∨w.heap.size≤b)):SepJ A C (updB s i) (updF u i v) w' :=
 (h.swap.newA hi hs hv).swap
end Go.Proofs.YtoikhhnmbbbjjaaDoor
namespace Go.Proofs.YtoikhhnmbbbjjaaDoor
set_option linter.unusedVariables false
set_option linter.unusedSimpArgs false
set_option maxRecDepth 100000
open Go.RowKit
section
variable {P:Program} {ops:Array Oper} {Q:Exit→Act→World→Prop}
def StepJ (P:Program) (ops:Array Oper) (Q:Exit→Act→World→Prop) (J:(Nat→Bool)→(Nat→Value)→World→Prop) (T:(Nat→Value)→Act) (i:Nat) (o:Oper):Prop :=
 ∀(u:Nat→Value) (w:World) (s:Nat→Bool),s i=false→(∀j,(aheadOf ops 12 (waitsFor ops i)).contains j=true→s j=true)→(∀k,s k=true→∀j,(waitsFor ops k).contains j=true→s j=true)→J s u w→∀K:Act→World→Prop,
  Shut (∀v w',J (updB s i) (updF u i v) w'→K ((T u).put o.dst v) w')→Oper.wp P o (T u) w K Q
theorem stepsJ_nil {J:(Nat→Bool)→(Nat→Value)→World→Prop} {T:(Nat→Value)→Act} {i m:Nat} (h:m≤i):∀j,i≤j→j<m→∀o,ops[j]?=some o→StepJ P ops Q J T j o:=fun j h1 h2=>by omega
theorem stepsJ_cons {J:(Nat→Bool)→(Nat→Value)→World→Prop} {T:(Nat→Value)→Act} {i i2 m:Nat} {o:Oper} (ho:ops[i]?=some o) (h:StepJ P ops Q J T i o)
  (hs:∀j,i2≤j→j<m→∀o,ops[j]?=some o→StepJ P ops Q J T j o) (hi:i2=i+1:=by rfl):∀j,i≤j→j<m→∀o,ops[j]?=some o→StepJ P ops Q J T j o:=fun j h1 h2 o' ho'=>by
 rcases Nat.lt_or_ge i j with h3 | h3
 ·
  exact hs j (by omega) h2 o' ho'
 ·
  obtain rfl:j=i:=by omega
  rw[ho]at ho'
  obtain rfl:=Option.some.inj ho'
  exact h
theorem wp_region_inv {id:Nat} {base:Act} {w:World} (m:Nat) (J:(Nat→Bool)→(Nat→Value)→World→Prop) (ds:List (Nat × Option Tmp)) {ol:Oper} (hds:idxD (dsts ops) 0=ds)
  (hf:formOk ops m=true) (hm:P.follows .mixedOrders=true) (hJ:∀u,J (fun _=>false) u w.drew) (hol:ops[m]?=some ol)
  (hstep:∀i,0≤i→i<m→∀o,ops[i]?=some o→StepJ P ops Q J (fun u=>putP u ds base) i o)
  (hlast:∀(u:Nat→Value) (w:World),(∃s:Nat→Bool,(∀j,j<m→s j=true)∧J s u w)→∀K:Act→World→Prop,
   Shut (∀v w',Q .normal ((putP u ds base).put ol.dst v) w'→K ((putP u ds base).put ol.dst v) w') →
   Oper.wp P ol (putP u ds base) w K Q):(Code.region id ops true).wp P Q base w:=by
 subst hds
 simp only[putP_idx]at hstep hlast
 unfold formOk at hf
 simp only[Bool.and_eq_true,List.all_eq_true,List.mem_range,decide_eq_true_eq]at hf
 obtain⟨⟨⟨⟨hw,hap⟩,hall⟩,hsz⟩,hgd⟩:=hf
 have plain:∀(i:Nat) (o:Oper) (y:Nat→Option Bool),ops[i]?=some o→Region.wanted o y=true:=fun i o y ho=>by
  have h1:=hgd o (Array.mem_toList_iff.2 (Array.mem_of_getElem? ho))
  unfold Region.wanted
  cases hq:o.guard with
  | none=>rfl
  | some q=>rw[hq]at h1;cases h1
 have hlt:∀j,j<ops.size→∀k∈waitsFor ops j,k<j:=fun j hj k hk=>hw j hj k hk
 have hmem:∀listed:Array Bool,ClosedL ops listed→listed.getD m false=true→∀j,j<m→listed.getD j false=true:=fun listed hc h j hj =>
  ahead_closed hc 12 [m] (fun k hk=>by rw[List.mem_singleton.1 hk];exact h) j (by have:=hall j hj;simpa using this)
 have key:∀(fuel:Nat) (listed:Array Bool) (a:Act) (w:World),listed.size=ops.size→ClosedL ops listed→listed.getD m false=false→(∃u,a=putF u (dsts ops) 0 base∧J (fun j=>listed.getD j false) u w)→(List.range ops.size).countP (fun j=>!listed.getD j true)≤fuel→wpAny P .any ops Q fuel listed a w:=by
  intro fuel
  induction fuel with
  | zero =>
   intro listed a w hs hc hl hI hn
   exfalso
   have h0:(List.range ops.size).countP (fun j=>!listed.getD j true)=0:=by omega
   rw[List.countP_eq_zero]at h0
   have:=h0 m (List.mem_range.2 (by omega))
   rw[getD_true_of (by omega)]at this hl
   rw[hl]at this
   exact this rfl
  | succ fuel ih =>
   intro listed a w hs hc hl hI hn
   refine⟨fun hr=>?_,fun i hi=>?_⟩
   ·
    have:=ready_nil hlt hs hr (m+1) m (by omega) (by omega)
    rw[this]at hl
    cases hl
   ·
    obtain⟨hjun,o,ho,-⟩:=mem_ready.1 hi
    have hi1:i<ops.size:=(Array.getElem?_eq_some_iff.1 ho).1
    have hif:listed.getD i false=false:=by rw[getD_true_of (by omega)]at hjun ⊢;exact hjun
    obtain⟨u,rfl,hJ0⟩:=hI
    have hd:(dsts ops)[i]?=some o.dst:=by
     unfold dsts
     rw[List.getElem?_map,Array.getElem?_toList,ho]
     rfl
    have hput:∀v,(putF u (dsts ops) 0 base).put o.dst v=putF (updF u i v) (dsts ops) 0 base:=fun v=>by
     have:=putF_upd (u:=u) v (dsts ops) 0 i o.dst base hap hd
     rwa [Nat.zero_add]at this
    have hs2:(listed.setIfInBounds i true).size=ops.size:=by simpa using hs
    have hself:(listed.setIfInBounds i true).getD i false=true:=by rw[getD_true_of (by omega),Array.getElem_setIfInBounds_self]
    have hcn:(List.range ops.size).countP (fun j=>!(listed.setIfInBounds i true).getD j true)≤fuel:=by
     have:(List.range ops.size).countP (fun j=>!(listed.setIfInBounds i true).getD j true)<(List.range ops.size).countP (fun j=>!listed.getD j true):=by
      refine countP_lt (List.mem_range.2 hi1) (by rw[hjun];rfl) ?_ (fun j hj=>?_)
      ·
       rw[getD_true_of (by omega),Array.getElem_setIfInBounds_self]
       rfl
      ·
       by_cases h:i=j
       ·
        subst h;rw[hjun];rfl
       ·
        rw[getD_set_ne true h]at hj;exact hj
     omega
    have hjm:∀j,listed.getD j false=true→j<m:=fun j hj=>by
     rcases Nat.lt_or_ge j ops.size with h | h
     ·
      rcases Nat.lt_or_ge j m with h2 | h2
      ·
       exact h2
      ·
       obtain rfl:j=m:=by omega
       rw[hl]at hj;cases hj
     ·
      rw[Array.getD_eq_getD_getElem?,Array.getElem?_eq_none (by omega)]at hj
      cases hj
    by_cases him:i=m
    ·
     subst him
     have hol':o=ol:=by rw[ho]at hol;exact Option.some.inj hol
     subst hol'
     have hall4:∀j,j<i→listed.getD j false=true:=fun j hj=>by
      have h3:=hmem _ (closed_set hc hi) hself j hj
      rwa [getD_set_ne false (by omega)]at h3
     have hall3:∀j,j<ops.size→(listed.setIfInBounds i true).getD j false=true:=fun j hj=>by
      rcases Nat.lt_or_ge j i with h | h
      ·
       exact hmem _ (closed_set hc hi) hself j h
      ·
       obtain rfl:j=i:=by omega
       exact hself
     have hnil:Region.ready .any ops (listed.setIfInBounds i true)=[]:=by
      refine List.eq_nil_iff_forall_not_mem.2 fun k hk=>?_
      obtain⟨h1,ok,hok,-⟩:=mem_ready.1 hk
      have hk1:k<ops.size:=(Array.getElem?_eq_some_iff.1 hok).1
      have h2:=hall3 k hk1
      rw[getD_true_of (by omega)]at h1 h2
      rw[h2]at h1
      cases h1
     exact wpOp_step ho fun K' hK=>(if_pos (plain _ _ _ ho)).mpr <| hlast u w ⟨_,hall4,hJ0⟩ K' (fun v w' hq=>hK _ _ (wpAny_done hnil hq _))
    ·
     have him2:(listed.setIfInBounds i true).getD m false=false:=by rw[getD_set_ne false him];exact hl
     refine wpOp_step ho fun K' hK=>(if_pos (plain _ _ _ ho)).mpr <| hstep i (Nat.zero_le _) (by omega) o ho u w _ hif (fun j hj=>ahead_closed hc 12 _ (waits_ready hi) j (by simpa using hj)) (fun k hk j hj=>hc k hk j (by simpa using hj)) hJ0 K' (fun v w' hJv=>hK _ _ ?_)
     exact ih _ _ _ hs2 (closed_set hc hi) him2 ⟨updF u i v,hput v,by rw[show (fun j=>(listed.setIfInBounds i true).getD j false)=updB (fun j=>listed.getD j false) i from updB_set (by omega)];exact hJv⟩ hcn
 have hrep:∀j,(Array.replicate ops.size false).getD j false=true→False:=fun j hj=>by
  by_cases h:j<ops.size
  ·
   rw[getD_true_of (by simpa using h)]at hj;simp at hj
  ·
   simp[Array.getElem?_eq_none (show (Array.replicate ops.size false).size≤j by simpa using h)]at hj
 refine wp_region_any hm (key ops.size _ _ _ (by simp) (fun j hj=>(hrep j hj).elim) ?_ ⟨fun j=>(((dsts ops)[j]?.getD none).map (fun t=>base.tmps.getD t undef)).getD undef,?_,(by rw[show (fun j=>(Array.replicate ops.size false).getD j false)=(fun _=>false)from funext fun j=>(by cases hq:(Array.replicate ops.size false).getD j false with | false=>rfl | true=>exact (hrep j hq).elim)];exact hJ _)⟩ ?_)
 ·
  rw[getD_true_of (by simp;omega)];simp
 ·
  symm
  refine putF_same base (dsts ops) 0 _ fun i d hd=>?_
  simp only[Nat.zero_add,hd,Option.getD_some]
 ·
  have:=List.countP_le_length (l:=List.range ops.size) (p:=fun j=>!(Array.replicate ops.size false).getD j true)
  simpa using this
end
end Go.Proofs.YtoikhhnmbbbjjaaDoor
