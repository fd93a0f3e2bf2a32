/- Lists of record types copied, both sides. -/
import Derived.Test.YtppmgodahloogaaGreatDoorPOw
import Derived.Test.YtppmgodahloogaaGreatDoorPTV
import Derived.Deep.RegionHeld3
import Derived.Deep.MidRow
import Derived.Deep.Cut
namespace Go.Proofs.YtppmgodahloogaaGreatDoor
set_option linter.unusedVariables false
set_option linter.unusedSimpArgs false
set_option maxRecDepth 100000
open Go.RowKit
def TRecordType.fl:TRecordType→List ByteArray | .mk _ f _=>f
theorem strs_flat (cs:List ByteArray):∀ds∈cs.map (fun x=>[Dat.str x]),∀d∈ds,d.flat:=by
 intro ds hds d hd
 obtain⟨x,-,rfl⟩:=List.mem_map.1 hds
 rw[List.mem_singleton.1 hd]
 trivial
theorem infoStr:(Tryz.prog.info? 9).map (fun i=>(i.zero,i.size,i.bytes))=some (some (.string ByteArray.empty),1,16):=by kernel_rfl
theorem infoRec:(Tryz.prog.info? 92).map (fun i=>(i.zero,i.size,i.bytes))=some (some (.agg #[.string ByteArray.empty,.slice none 0 0,.int .i64 0]),3,48):=by kernel_rfl
abbrev RecC (f:FuncId):Prop:=∀(xs:List TRecordType) (S:Nat→Prop) (w:World) (A:Option Addr) (c:Nat),Row w S 3 A c (xs.map TRecordType.D)→xs.length≤1048576→(∀(k:Nat) (h:k<xs.length),xs[k].fl.length≤1048576) →
 Calls Tryz.prog f #[.slice A xs.length c] w fun e w'=>∃v L,e=.returned v∧OwnD w' 92 3 v L (xs.map TRecordType.D)∧(∀b,Blk v L b→w.heap.size≤b)∧Bel w w'
theorem take_D {α:Type} (D:α→List Dat) {l:List α} {i:Nat} (h:i<l.length):(l.take (i+1)).map D=(l.take i).map D++[D l[i]]:=by
 rw[List.take_succ_eq_append_getElem h,List.map_append,List.map_cons,List.map_nil]
theorem wp_named2 {P:Program} {c:Code} {Q:Exit→Act→World→Prop} {a:Act} {W:World} (h:∀wq,W=wq→Code.wp P c Q a wq):Code.wp P c Q a W:=h W rfl
set_option maxHeartbeats 2000000 in
theorem specRecs_any:RecC 53:=by
 intro xs S w A c hR hx hf
 have HR:=hide hR
 have HF:=hide hf
 have hlc:=hR.1
 have hcm:=hR.2.1
 simp only[List.length_map]at hlc
 unfold maxLen at hcm
 clear hR hf
 obtain⟨is,his,zs0,zs1,zs2⟩:=info_parts infoStr
 obtain⟨ir,hir,zr0,zr1,zr2⟩:=info_parts infoRec
 go_enter Tryz.func53,Tryz.ntmps53
 go_wp2_with (fail)
 go_loopw [3,4] (fun lv iv wr=>∃(i:Nat) (v:Value) (L:List Nat),v=lv∧iv=.int .i64 i∧i≤xs.length∧Hid (OwnD wr 92 3 v L ((xs.take i).map TRecordType.D))∧Hid (∀b,Blk v L b→w.heap.size≤b)∧Hid (Bel w wr)) (fun _ iv _=>xs.length - (intOf iv).toNat)
 case atStart=>exact⟨0,_,[],rfl,rfl,Nat.zero_le _,hide (OwnD.lit0 _ _ _),hide (fun b hb=>by rcases hb with hb | hb;(have e:=Option.some.inj (show some w.heap.size=some b from hb);omega);cases hb),hide bl⟩
 case round =>
  obtain⟨i,v,L,rfl,rfl,hi,HO,HB,HBR⟩:=hrel
  by_cases h:i<xs.length
  ·
   skip
   have hdc:decide ((i:Int)<(xs.length:Int))=true:=by simp;omega
   have hi0:(0:Int)≤(i:Int):=by omega
   have hi1:(i:Int)<(xs.length:Int):=by omega
   have hbw:=HBR.out
   (obtain⟨b1,o1,x1_0,x1_1,x1_2,A1_1,C1_1,hA1,hS1,hl1,hx1,hv1,g1_0,g1_1,g1_2,c1_0,c1_1,c1_2⟩:=TRecordType.at HR.out i h;subst hA1;have HV1:=hide (Dat.HoldVals.bel hbw hv1);have hh1:=hbw.box b1 hl1;have hw1:=Nat.lt_of_lt_of_le hl1 (Bel.size hbw);replace c1_0:=(hh1 _).trans c1_0;replace c1_1:=(hh1 _).trans c1_1;replace c1_2:=(hh1 _).trans c1_2;have HX1:=hide hx1;have GR1_1:=hide g1_1;clear hh1 hv1 hx1 hS1 g1_1)
   have hfl:=HF.out i h
   rw[HX1.out]at hfl
   simp only[TRecordType.fl]at hfl
   have hlf:=GR1_1.out.1
   have hmf:=GR1_1.out.2.1
   simp only[List.length_map]at hlf
   unfold maxLen at hmf
   go_upto_region 5 with (fail)
   have hbrA:Bel wr wr:=Bel.refl _
   have k0:=c1_0
   have k1:=c1_1
   have k2:=c1_2
   have HOA:=hide (HO.out.bel hbrA)
   have hbA:=Bel.trans hbw hbrA
   refine wp_region_held_drew (S:=fun w'=>w'.cell? ⟨b1,o1+i*3,none⟩=some (.string x1_0)∧w'.cell? ⟨b1,o1+i*3+1,none⟩=some (.slice A1_1 x1_1.length C1_1)∧w'.cell? ⟨b1,o1+i*3+2,none⟩=some (.int .i64 x1_2)) (by kernel_rfl) ?_ (fun hHeld=>?_)
   ·
    exact⟨k0,k1,k2⟩
   refine tkI 0 ?_
   refine tkI 1 ?_
   refine tkI 2 ?_
   refine tkI 3 ?_
   refine tkI 4 ?_
   refine tkI 5 ?_
   refine tkI 7 ?_
   refine tkI 8 ?_
   refine tkI 9 ?_
   refine tkI 10 ?_
   refine tkI 11 ?_
   refine tkI 13 ?_
   refine tkI 14 ?_
   refine tkI 15 ?_
   refine tkI 16 ?_
   refine tkI 17 ?_
   have hlB:b1<wr.heap.size:=by exact hw1
   refine wpAnyH_ready (rs:=[6]) (by kernel_rfl) (by simp) ?_
   refine AllReadyH.cons (o:=_) rfl (fun K hK=>?_) AllReadyH.nil
   go_simp
   clear hHeld
   have hb1:Bel wr ((wr.alloc (.cells #[] 9)).drew):=bl
   have hO5:=OwnD.bel (OwnD.lit0 wr 9 1) (show Bel _ ((wr.alloc (.cells #[] 9)).drew)from bl)
   refine hK.out _ _ ?_ (fun hHeld=>?_)
   ·
    exact⟨(hb1.box b1 hlB _).trans k0,(hb1.box b1 hlB _).trans k1,(hb1.box b1 hlB _).trans k2⟩
   clear hK K
   (try simp only[Act.put,List.setIfInBounds_toArray,List.set_cons_zero,List.set_cons_succ,List.getElem_toArray,List.getElem_cons_zero,List.getElem_cons_succ])
   refine wpAnyH_ready (rs:=[12]) (by kernel_rfl) (by simp) ?_
   refine AllReadyH.cons (o:=_) rfl (fun K hK=>?_) AllReadyH.nil
   rw[if_pos (by rfl)]
   obtain⟨nw1,hsr1⟩:=Row.src (strs_flat x1_1) (Row.bel (Bel.trans hbA hb1) GR1_1.out)
   rw[List.length_map]at hsr1
   refine wp_append_D (.tmp 18) (.tmp 23) 22 rfl 9 is (.string ByteArray.empty) 1 16 Tryz.underlying22 his zs0 zs1 zs2 (by decide) (by decide) hO5 hsr1 C1_1 rfl rfl (fun b _ h=>by cases h) (by simp only[List.length_nil];omega) (by unfold maxLen;simp only[List.length_nil];omega) fun v5 w5 hO6 hg5 hw5=>?_
   have hb2:Bel wr w5:=Below.grown hb1 hg5 (by simp) (fun k hk=>by have:=Option.some.inj (show some wr.heap.size=some k from hk);omega)
   obtain⟨A6,c6,L6,hv6e,hr6,hn6,hk6⟩:=hO6.ownRow
   subst hv6e
   simp only[List.nil_append,List.length_map]at hr6 hk6 hw5 ⊢
   have HR6:=hide hr6
   have HN6:=hide hn6
   have HK6:=hide (show ∀b,b∈L6→wr.heap.size≤b from fun b hb=>(hk6 b hb).elim (fun q=>(hw5 b q).elim (fun q=>by have:=Option.some.inj (show some wr.heap.size=some b from q);omega) (fun q=>by have:=hb1.size;omega)) (fun q=>by cases q))
   clear hsr1 hO5 hO6 hg5 hw5 hr6 hn6 hk6
   refine hK.out _ _ ?_ (fun hHeld=>?_)
   ·
    exact⟨(hb2.box b1 hlB _).trans k0,(hb2.box b1 hlB _).trans k1,(hb2.box b1 hlB _).trans k2⟩
   clear hK K
   (try simp only[Act.put,List.setIfInBounds_toArray,List.set_cons_zero,List.set_cons_succ,List.getElem_toArray,List.getElem_cons_zero,List.getElem_cons_succ])
   refine tkI 18 ?_
   refine wpAnyH_ready (rs:=[19]) (by kernel_rfl) (by simp) ?_
   refine AllReadyH.cons (o:=_) rfl (fun K hK=>?_) AllReadyH.nil
   go_simp
   clear hHeld
   have hb3:Bel wr (w5.alloc (.cells #[.string x1_0,.slice A6 x1_1.length c6,.int .i64 x1_2] 92)):=bl
   have hown:=OwnD.lit1 (k:=3) w5 92 (TRecordType.own_mk g1_0 HR6.out g1_2) rfl HN6.out
   obtain⟨nw3,hsr3⟩:=hown.src
   have HSR3:=hide hsr3
   clear hown hsr3
   have HO7:=hide (HOA.out.bel hb3)
   refine hK.out _ _ ?_ (fun hHeld=>?_)
   ·
    exact⟨(hb3.box b1 hlB _).trans k0,(hb3.box b1 hlB _).trans k1,(hb3.box b1 hlB _).trans k2⟩
   clear hK K
   (try simp only[Act.put,List.setIfInBounds_toArray,List.set_cons_zero,List.set_cons_succ,List.getElem_toArray,List.getElem_cons_zero,List.getElem_cons_succ])
   refine wpAnyH_ready (rs:=[20]) (by kernel_rfl) (by simp) ?_
   refine AllReadyH.cons (o:=_) rfl (fun K hK=>?_) AllReadyH.nil
   rw[if_pos (by rfl)]
   refine wp_append_D (.tmp 12) (.tmp 31) 35 rfl 92 ir (.agg #[.string ByteArray.empty,.slice none 0 0,.int .i64 0]) 3 48 Tryz.underlying35 hir zr0 zr1 zr2 (by decide) (by decide) HO7.out HSR3.out 1 rfl rfl (fun b hb hm=>by have h1:=HOA.out.lt b hb;have h2:=HK6.out b hm;omega) (by rw[List.length_map,List.length_take];omega) (by rw[List.length_map,List.length_take];unfold maxLen;omega) fun v8 w8 hO8 hg8 hw8=>?_
   have hb8:Bel w w8:=Below.grown (Bel.trans hbA hb3) hg8 (Bel.trans hbA hb3).size (fun k hk=>HB.out k (Or.inl hk))
   have hne:v.ownBlock≠some b1:=fun q=>by have:=HB.out _ (Or.inl q);omega
   have hz3:=hb3.size
   have e8:=hg8.block b1 (by omega) (fun q=>hne q.symm)
   refine hK.out _ _ ?_ (fun hHeld=>?_)
   ·
    exact⟨(World.cell?_of_block e8).trans ((hb3.box b1 hlB _).trans k0),(World.cell?_of_block e8).trans ((hb3.box b1 hlB _).trans k1),(World.cell?_of_block e8).trans ((hb3.box b1 hlB _).trans k2)⟩
   clear hK K
   (try simp only[Act.put,List.setIfInBounds_toArray,List.set_cons_zero,List.set_cons_succ,List.getElem_toArray,List.getElem_cons_zero,List.getElem_cons_succ])
   refine tkI 21 ?_
   refine wpAnyH_done (by kernel_rfl) ?_ _
   clear hHeld
   have HO9:=hide (show OwnD w8 92 3 v8 (L++L6) ((xs.take (i+1)).map TRecordType.D) by rw[take_D TRecordType.D h,HX1.out];exact hO8)
   have hz8:=hbA.size
   have HB9:=hide (show ∀b,Blk v8 (L++L6) b→w.heap.size≤b from fun b hb=>hb.elim (fun q=>(hw8 b q).elim (fun q=>HB.out b (Or.inl q)) (fun q=>by have:=(Bel.trans hbA hb3).size;omega)) (fun q=>(List.mem_append.1 q).elim (fun q=>HB.out b (Or.inr q)) (fun q=>by have:=HK6.out b q;omega)))
   clear hO8 hg8 hw8 e8
   go_wp2_with (fail)
   all_goals go_roundw
   case rel=>exact⟨i+1,_,_,rfl,by go_num,by omega,hide (HO9.out.bel bl),hide HB9.out,hide (Bel.trans hb8 bl)⟩
   case measure=>simp[intOf];omega
  ·
   skip
   have hdc:decide ((i:Int)<(xs.length:Int))=false:=by simp;omega
   have HO9:=hide (show OwnD wr 92 3 v L (xs.map TRecordType.D) by have:=HO.out;rw[List.take_of_length_le (by omega)]at this;exact this)
   obtain⟨A9,n9,c9,rfl⟩:∃A9 n9 c9,v=.slice A9 n9 c9:=by obtain⟨A0,c0,L0,hv0,_⟩:=HO.out.ownRow;exact⟨_,_,_,hv0⟩
   go_wp2_with (fail)
   all_goals
    go_returns
    exact⟨_,L,rfl,HO9.out.bel bl,HB.out,Bel.trans HBR.out bl⟩
set_option maxHeartbeats 2000000 in
theorem implRecs_any:RecC 65:=by
 intro xs S w A c hR hx hf
 have HR:=hide hR
 have HF:=hide hf
 have hlc:=hR.1
 have hcm:=hR.2.1
 simp only[List.length_map]at hlc
 unfold maxLen at hcm
 clear hR hf
 obtain⟨is,his,zs0,zs1,zs2⟩:=info_parts infoStr
 obtain⟨ir,hir,zr0,zr1,zr2⟩:=info_parts infoRec
 go_enter Tryz.func65,Tryz.ntmps65
 go_wp2_with (fail)
 go_loopw [3,9] (fun lv iv wr=>∃(i:Nat) (v:Value) (L:List Nat),v=lv∧iv=.int .i64 i∧i≤xs.length∧Hid (OwnD wr 92 3 v L ((xs.take i).map TRecordType.D))∧Hid (∀b,Blk v L b→w.heap.size≤b)∧Hid (Bel w wr)) (fun _ iv _=>xs.length - (intOf iv).toNat)
 case atStart=>exact⟨0,_,[],rfl,rfl,Nat.zero_le _,hide (OwnD.lit0 _ _ _),hide (fun b hb=>by rcases hb with hb | hb;(have e:=Option.some.inj (show some w.heap.size=some b from hb);omega);cases hb),hide bl⟩
 case round =>
  obtain⟨i,v,L,rfl,rfl,hi,HO,HB,HBR⟩:=hrel
  by_cases h:i<xs.length
  ·
   skip
   have hdc:decide ((i:Int)<(xs.length:Int))=true:=by simp;omega
   have hi0:(0:Int)≤(i:Int):=by omega
   have hi1:(i:Int)<(xs.length:Int):=by omega
   have hbw:=HBR.out
   (obtain⟨b1,o1,x1_0,x1_1,x1_2,A1_1,C1_1,hA1,hS1,hl1,hx1,hv1,g1_0,g1_1,g1_2,c1_0,c1_1,c1_2⟩:=TRecordType.at HR.out i h;subst hA1;have HV1:=hide (Dat.HoldVals.bel hbw hv1);have hh1:=hbw.box b1 hl1;have hw1:=Nat.lt_of_lt_of_le hl1 (Bel.size hbw);replace c1_0:=(hh1 _).trans c1_0;replace c1_1:=(hh1 _).trans c1_1;replace c1_2:=(hh1 _).trans c1_2;have HX1:=hide hx1;have GR1_1:=hide g1_1;clear hh1 hv1 hx1 hS1 g1_1)
   have hfl:=HF.out i h
   rw[HX1.out]at hfl
   simp only[TRecordType.fl]at hfl
   have hlf:=GR1_1.out.1
   have hmf:=GR1_1.out.2.1
   simp only[List.length_map]at hlf
   unfold maxLen at hmf
   go_upto_region 5 with (fail)
   refine wp_named2 fun wA hwA=>?_
   have hbrA:Bel wr wA:=by rw[←hwA];exact bl
   have hzA:wr.heap.size<wA.heap.size:=by rw[←hwA];simp
   have k0:wA.cell? ⟨wr.heap.size,0,none⟩=some (.string x1_0):=by rw[←hwA];simp[go_sem]
   have k1:wA.cell? ⟨wr.heap.size,1,none⟩=some (.slice A1_1 x1_1.length C1_1):=by rw[←hwA];simp[go_sem]
   have k2:wA.cell? ⟨wr.heap.size,2,none⟩=some (.int .i64 x1_2):=by rw[←hwA];simp[go_sem]
   clear hwA
   have HOA:=hide (HO.out.bel hbrA)
   have hbA:=Bel.trans hbw hbrA
   refine wp_region_held_drew (S:=fun w'=>w'.cell? ⟨wr.heap.size,0,none⟩=some (.string x1_0)∧w'.cell? ⟨wr.heap.size,1,none⟩=some (.slice A1_1 x1_1.length C1_1)∧w'.cell? ⟨wr.heap.size,2,none⟩=some (.int .i64 x1_2)) (by kernel_rfl) ?_ (fun hHeld=>?_)
   ·
    exact⟨k0,k1,k2⟩
   refine tkI 0 ?_
   refine tkI 1 ?_
   refine tkI 2 ?_
   refine tkI 4 ?_
   refine tkI 5 ?_
   refine tkI 7 ?_
   refine tkI 8 ?_
   have hlB:wr.heap.size<wA.heap.size:=by omega
   refine wpAnyH_ready (rs:=[3]) (by kernel_rfl) (by simp) ?_
   refine AllReadyH.cons (o:=_) rfl (fun K hK=>?_) AllReadyH.nil
   go_simp
   clear hHeld
   have hb1:Bel wA ((wA.alloc (.cells #[] 9)).drew):=bl
   have hO5:=OwnD.bel (OwnD.lit0 wA 9 1) (show Bel _ ((wA.alloc (.cells #[] 9)).drew)from bl)
   refine hK.out _ _ ?_ (fun hHeld=>?_)
   ·
    exact⟨(hb1.box wr.heap.size hlB _).trans k0,(hb1.box wr.heap.size hlB _).trans k1,(hb1.box wr.heap.size hlB _).trans k2⟩
   clear hK K
   (try simp only[Act.put,List.setIfInBounds_toArray,List.set_cons_zero,List.set_cons_succ,List.getElem_toArray,List.getElem_cons_zero,List.getElem_cons_succ])
   refine wpAnyH_ready (rs:=[6]) (by kernel_rfl) (by simp) ?_
   refine AllReadyH.cons (o:=_) rfl (fun K hK=>?_) AllReadyH.nil
   rw[if_pos (by rfl)]
   obtain⟨nw1,hsr1⟩:=Row.src (strs_flat x1_1) (Row.bel (Bel.trans hbA hb1) GR1_1.out)
   rw[List.length_map]at hsr1
   refine wp_append_D (.tmp 16) (.tmp 18) 22 rfl 9 is (.string ByteArray.empty) 1 16 Tryz.underlying22 his zs0 zs1 zs2 (by decide) (by decide) hO5 hsr1 C1_1 rfl rfl (fun b _ h=>by cases h) (by simp only[List.length_nil];omega) (by unfold maxLen;simp only[List.length_nil];omega) fun v5 w5 hO6 hg5 hw5=>?_
   have hb2:Bel wA w5:=Below.grown hb1 hg5 (by simp) (fun k hk=>by have:=Option.some.inj (show some wA.heap.size=some k from hk);omega)
   obtain⟨A6,c6,L6,hv6e,hr6,hn6,hk6⟩:=hO6.ownRow
   subst hv6e
   simp only[List.nil_append,List.length_map]at hr6 hk6 hw5 ⊢
   have HR6:=hide hr6
   have HN6:=hide hn6
   have HK6:=hide (show ∀b,b∈L6→wA.heap.size≤b from fun b hb=>(hk6 b hb).elim (fun q=>(hw5 b q).elim (fun q=>by have:=Option.some.inj (show some wA.heap.size=some b from q);omega) (fun q=>by have:=hb1.size;omega)) (fun q=>by cases q))
   clear hsr1 hO5 hO6 hg5 hw5 hr6 hn6 hk6
   refine hK.out _ _ ?_ (fun hHeld=>?_)
   ·
    exact⟨(hb2.box wr.heap.size hlB _).trans k0,(hb2.box wr.heap.size hlB _).trans k1,(hb2.box wr.heap.size hlB _).trans k2⟩
   clear hK K
   (try simp only[Act.put,List.setIfInBounds_toArray,List.set_cons_zero,List.set_cons_succ,List.getElem_toArray,List.getElem_cons_zero,List.getElem_cons_succ])
   refine tkI 9 ?_
   refine wpAnyH_ready (rs:=[10]) (by kernel_rfl) (by simp) ?_
   refine AllReadyH.cons (o:=_) rfl (fun K hK=>?_) AllReadyH.nil
   go_simp
   clear hHeld
   have hb3:Bel wA (w5.alloc (.cells #[.string x1_0,.slice A6 x1_1.length c6,.int .i64 x1_2] 92)):=bl
   have hown:=OwnD.lit1 (k:=3) w5 92 (TRecordType.own_mk g1_0 HR6.out g1_2) rfl HN6.out
   obtain⟨nw3,hsr3⟩:=hown.src
   have HSR3:=hide hsr3
   clear hown hsr3
   have HO7:=hide (HOA.out.bel hb3)
   refine hK.out _ _ ?_ (fun hHeld=>?_)
   ·
    exact⟨(hb3.box wr.heap.size hlB _).trans k0,(hb3.box wr.heap.size hlB _).trans k1,(hb3.box wr.heap.size hlB _).trans k2⟩
   clear hK K
   (try simp only[Act.put,List.setIfInBounds_toArray,List.set_cons_zero,List.set_cons_succ,List.getElem_toArray,List.getElem_cons_zero,List.getElem_cons_succ])
   refine wpAnyH_ready (rs:=[11]) (by kernel_rfl) (by simp) ?_
   refine AllReadyH.cons (o:=_) rfl (fun K hK=>?_) AllReadyH.nil
   rw[if_pos (by rfl)]
   refine wp_append_D (.tmp 13) (.tmp 23) 35 rfl 92 ir (.agg #[.string ByteArray.empty,.slice none 0 0,.int .i64 0]) 3 48 Tryz.underlying35 hir zr0 zr1 zr2 (by decide) (by decide) HO7.out HSR3.out 1 rfl rfl (fun b hb hm=>by have h1:=HOA.out.lt b hb;have h2:=HK6.out b hm;omega) (by rw[List.length_map,List.length_take];omega) (by rw[List.length_map,List.length_take];unfold maxLen;omega) fun v8 w8 hO8 hg8 hw8=>?_
   have hb8:Bel w w8:=Below.grown (Bel.trans hbA hb3) hg8 (Bel.trans hbA hb3).size (fun k hk=>HB.out k (Or.inl hk))
   have hne:v.ownBlock≠some wr.heap.size:=fun q=>by have:=HO.out.lt _ (Or.inl q);omega
   have hz3:=hb3.size
   have e8:=hg8.block wr.heap.size (by omega) (fun q=>hne q.symm)
   refine hK.out _ _ ?_ (fun hHeld=>?_)
   ·
    exact⟨(World.cell?_of_block e8).trans ((hb3.box wr.heap.size hlB _).trans k0),(World.cell?_of_block e8).trans ((hb3.box wr.heap.size hlB _).trans k1),(World.cell?_of_block e8).trans ((hb3.box wr.heap.size hlB _).trans k2)⟩
   clear hK K
   (try simp only[Act.put,List.setIfInBounds_toArray,List.set_cons_zero,List.set_cons_succ,List.getElem_toArray,List.getElem_cons_zero,List.getElem_cons_succ])
   refine tkI 12 ?_
   refine wpAnyH_done (by kernel_rfl) ?_ _
   clear hHeld
   have HO9:=hide (show OwnD w8 92 3 v8 (L++L6) ((xs.take (i+1)).map TRecordType.D) by rw[take_D TRecordType.D h,HX1.out];exact hO8)
   have hz8:=hbA.size
   have HB9:=hide (show ∀b,Blk v8 (L++L6) b→w.heap.size≤b from fun b hb=>hb.elim (fun q=>(hw8 b q).elim (fun q=>HB.out b (Or.inl q)) (fun q=>by have:=(Bel.trans hbA hb3).size;omega)) (fun q=>(List.mem_append.1 q).elim (fun q=>HB.out b (Or.inr q)) (fun q=>by have:=HK6.out b q;omega)))
   clear hO8 hg8 hw8 e8
   go_wp2_with (fail)
   all_goals go_roundw
   case rel=>exact⟨i+1,_,_,rfl,by go_num,by omega,hide (HO9.out.bel bl),hide HB9.out,hide (Bel.trans hb8 bl)⟩
   case measure=>simp[intOf];omega
  ·
   skip
   have hdc:decide ((i:Int)<(xs.length:Int))=false:=by simp;omega
   have HO9:=hide (show OwnD wr 92 3 v L (xs.map TRecordType.D) by have:=HO.out;rw[List.take_of_length_le (by omega)]at this;exact this)
   obtain⟨A9,n9,c9,rfl⟩:∃A9 n9 c9,v=.slice A9 n9 c9:=by obtain⟨A0,c0,L0,hv0,_⟩:=HO.out.ownRow;exact⟨_,_,_,hv0⟩
   go_wp2_with (fail)
   all_goals
    go_returns
    exact⟨_,L,rfl,HO9.out.bel bl,HB.out,Bel.trans HBR.out bl⟩
end Go.Proofs.YtppmgodahloogaaGreatDoor
namespace Go.Proofs.YtppmgodahloogaaGreatDoor
set_option linter.unusedVariables false
set_option linter.unusedSimpArgs false
set_option maxRecDepth 100000
open Go.RowKit
theorem set_block {w:World} {b b':Nat} (o:Nat) (u:Value) (hn:b'≠b):(w.setCell ⟨b',o,none⟩ u).heap[b]?=w.heap[b]?:=by
 unfold World.setCell
 split
 all_goals
  show (w.heap.modify b' _)[b]?=_
  rw[Array.getElem?_modify,if_neg hn]
theorem wpList_namedF {P:Program} {ops:Array Oper} {Q:Exit→Act→World→Prop} {l:List Oper} {a:Act} {W:World} (h:∀wz,wz=W→wpList P ops Q l a wz):wpList P ops Q l a W:=h W rfl
def SB (w:World) (b:Nat) (v0 v1 v2 v3 v4 v5 v6 v7 v8 v9 v10 v11 v12:Value):Prop:=b<w.heap.size∧(∀o,w.frozen? ⟨b,o,none⟩=false)∧w.cell? ⟨b,0,none⟩=some v0∧w.cell? ⟨b,1,none⟩=some v1∧w.cell? ⟨b,2,none⟩=some v2∧w.cell? ⟨b,3,none⟩=some v3∧w.cell? ⟨b,4,none⟩=some v4∧w.cell? ⟨b,5,none⟩=some v5∧w.cell? ⟨b,6,none⟩=some v6∧w.cell? ⟨b,7,none⟩=some v7∧w.cell? ⟨b,8,none⟩=some v8∧w.cell? ⟨b,9,none⟩=some v9∧w.cell? ⟨b,10,none⟩=some v10∧w.cell? ⟨b,11,none⟩=some v11∧w.cell? ⟨b,12,none⟩=some v12
section
variable {w w':World} {b:Nat} {v0 v1 v2 v3 v4 v5 v6 v7 v8 v9 v10 v11 v12:Value}
theorem SB.block (h:SB w b v0 v1 v2 v3 v4 v5 v6 v7 v8 v9 v10 v11 v12) (hs:w.heap.size≤w'.heap.size) (hb:w'.heap[b]?=w.heap[b]?):SB w' b v0 v1 v2 v3 v4 v5 v6 v7 v8 v9 v10 v11 v12:=by
 obtain⟨l,f,c0,c1,c2,c3,c4,c5,c6,c7,c8,c9,c10,c11,c12⟩:=h
 have e:∀o,w'.cell? ⟨b,o,none⟩=w.cell? ⟨b,o,none⟩:=fun o=>World.cell?_of_block hb
 exact⟨by omega,fun o=>(World.frozen?_of_block hb).trans (f o),(e 0).trans c0,(e 1).trans c1,(e 2).trans c2,(e 3).trans c3,(e 4).trans c4,(e 5).trans c5,(e 6).trans c6,(e 7).trans c7,(e 8).trans c8,(e 9).trans c9,(e 10).trans c10,(e 11).trans c11,(e 12).trans c12⟩
theorem SB.on (h:SB w b v0 v1 v2 v3 v4 v5 v6 v7 v8 v9 v10 v11 v12) (k:Bel w w'):SB w' b v0 v1 v2 v3 v4 v5 v6 v7 v8 v9 v10 v11 v12:=h.block k.size (Below.block k b h.1)
theorem SB.new (w:World) (t:TypeId):SB (w.alloc (.cells #[v0,v1,v2,v3,v4,v5,v6,v7,v8,v9,v10,v11,v12] t)) w.heap.size v0 v1 v2 v3 v4 v5 v6 v7 v8 v9 v10 v11 v12 :=
 ⟨by simp,fun o=>by simp,by simp,by simp,by simp,by simp,by simp,by simp,by simp,by simp,by simp,by simp,by simp,by simp,by simp⟩
theorem SB.far (h:SB w b v0 v1 v2 v3 v4 v5 v6 v7 v8 v9 v10 v11 v12) {b':Nat} (o:Nat) (u:Value) (hn:b'≠b):SB (w.setCell ⟨b',o,none⟩ u) b v0 v1 v2 v3 v4 v5 v6 v7 v8 v9 v10 v11 v12 :=
 h.block (by simp) (set_block o u hn)
theorem SB.put0 (h:SB w b v0 v1 v2 v3 v4 v5 v6 v7 v8 v9 v10 v11 v12) (u:Value):SB (w.setCell ⟨b,0,none⟩ u) b u v1 v2 v3 v4 v5 v6 v7 v8 v9 v10 v11 v12:=by
 obtain⟨l,f,c0,c1,c2,c3,c4,c5,c6,c7,c8,c9,c10,c11,c12⟩:=h
 exact⟨by simpa using l,fun o=>by simp[f],by simp[c0,go_sem],by simp[c1,go_sem],by simp[c2,go_sem],by simp[c3,go_sem],by simp[c4,go_sem],by simp[c5,go_sem],by simp[c6,go_sem],by simp[c7,go_sem],by simp[c8,go_sem],by simp[c9,go_sem],by simp[c10,go_sem],by simp[c11,go_sem],by simp[c12,go_sem]⟩
theorem SB.put1 (h:SB w b v0 v1 v2 v3 v4 v5 v6 v7 v8 v9 v10 v11 v12) (u:Value):SB (w.setCell ⟨b,1,none⟩ u) b v0 u v2 v3 v4 v5 v6 v7 v8 v9 v10 v11 v12:=by
 obtain⟨l,f,c0,c1,c2,c3,c4,c5,c6,c7,c8,c9,c10,c11,c12⟩:=h
 exact⟨by simpa using l,fun o=>by simp[f],by simp[c0,go_sem],by simp[c1,go_sem],by simp[c2,go_sem],by simp[c3,go_sem],by simp[c4,go_sem],by simp[c5,go_sem],by simp[c6,go_sem],by simp[c7,go_sem],by simp[c8,go_sem],by simp[c9,go_sem],by simp[c10,go_sem],by simp[c11,go_sem],by simp[c12,go_sem]⟩
theorem SB.put2 (h:SB w b v0 v1 v2 v3 v4 v5 v6 v7 v8 v9 v10 v11 v12) (u:Value):SB (w.setCell ⟨b,2,none⟩ u) b v0 v1 u v3 v4 v5 v6 v7 v8 v9 v10 v11 v12:=by
 obtain⟨l,f,c0,c1,c2,c3,c4,c5,c6,c7,c8,c9,c10,c11,c12⟩:=h
 exact⟨by simpa using l,fun o=>by simp[f],by simp[c0,go_sem],by simp[c1,go_sem],by simp[c2,go_sem],by simp[c3,go_sem],by simp[c4,go_sem],by simp[c5,go_sem],by simp[c6,go_sem],by simp[c7,go_sem],by simp[c8,go_sem],by simp[c9,go_sem],by simp[c10,go_sem],by simp[c11,go_sem],by simp[c12,go_sem]⟩
theorem SB.put3 (h:SB w b v0 v1 v2 v3 v4 v5 v6 v7 v8 v9 v10 v11 v12) (u:Value):SB (w.setCell ⟨b,3,none⟩ u) b v0 v1 v2 u v4 v5 v6 v7 v8 v9 v10 v11 v12:=by
 obtain⟨l,f,c0,c1,c2,c3,c4,c5,c6,c7,c8,c9,c10,c11,c12⟩:=h
 exact⟨by simpa using l,fun o=>by simp[f],by simp[c0,go_sem],by simp[c1,go_sem],by simp[c2,go_sem],by simp[c3,go_sem],by simp[c4,go_sem],by simp[c5,go_sem],by simp[c6,go_sem],by simp[c7,go_sem],by simp[c8,go_sem],by simp[c9,go_sem],by simp[c10,go_sem],by simp[c11,go_sem],by simp[c12,go_sem]⟩
theorem SB.put4 (h:SB w b v0 v1 v2 v3 v4 v5 v6 v7 v8 v9 v10 v11 v12) (u:Value):SB (w.setCell ⟨b,4,none⟩ u) b v0 v1 v2 v3 u v5 v6 v7 v8 v9 v10 v11 v12:=by
 obtain⟨l,f,c0,c1,c2,c3,c4,c5,c6,c7,c8,c9,c10,c11,c12⟩:=h
 exact⟨by simpa using l,fun o=>by simp[f],by simp[c0,go_sem],by simp[c1,go_sem],by simp[c2,go_sem],by simp[c3,go_sem],by simp[c4,go_sem],by simp[c5,go_sem],by simp[c6,go_sem],by simp[c7,go_sem],by simp[c8,go_sem],by simp[c9,go_sem],by simp[c10,go_sem],by simp[c11,go_sem],by simp[c12,go_sem]⟩
theorem SB.put5 (h:SB w b v0 v1 v2 v3 v4 v5 v6 v7 v8 v9 v10 v11 v12) (u:Value):SB (w.setCell ⟨b,5,none⟩ u) b v0 v1 v2 v3 v4 u v6 v7 v8 v9 v10 v11 v12:=by
 obtain⟨l,f,c0,c1,c2,c3,c4,c5,c6,c7,c8,c9,c10,c11,c12⟩:=h
 exact⟨by simpa using l,fun o=>by simp[f],by simp[c0,go_sem],by simp[c1,go_sem],by simp[c2,go_sem],by simp[c3,go_sem],by simp[c4,go_sem],by simp[c5,go_sem],by simp[c6,go_sem],by simp[c7,go_sem],by simp[c8,go_sem],by simp[c9,go_sem],by simp[c10,go_sem],by simp[c11,go_sem],by simp[c12,go_sem]⟩
theorem SB.put6 (h:SB w b v0 v1 v2 v3 v4 v5 v6 v7 v8 v9 v10 v11 v12) (u:Value):SB (w.setCell ⟨b,6,none⟩ u) b v0 v1 v2 v3 v4 v5 u v7 v8 v9 v10 v11 v12:=by
 obtain⟨l,f,c0,c1,c2,c3,c4,c5,c6,c7,c8,c9,c10,c11,c12⟩:=h
 exact⟨by simpa using l,fun o=>by simp[f],by simp[c0,go_sem],by simp[c1,go_sem],by simp[c2,go_sem],by simp[c3,go_sem],by simp[c4,go_sem],by simp[c5,go_sem],by simp[c6,go_sem],by simp[c7,go_sem],by simp[c8,go_sem],by simp[c9,go_sem],by simp[c10,go_sem],by simp[c11,go_sem],by simp[c12,go_sem]⟩
theorem SB.put7 (h:SB w b v0 v1 v2 v3 v4 v5 v6 v7 v8 v9 v10 v11 v12) (u:Value):SB (w.setCell ⟨b,7,none⟩ u) b v0 v1 v2 v3 v4 v5 v6 u v8 v9 v10 v11 v12:=by
 obtain⟨l,f,c0,c1,c2,c3,c4,c5,c6,c7,c8,c9,c10,c11,c12⟩:=h
 exact⟨by simpa using l,fun o=>by simp[f],by simp[c0,go_sem],by simp[c1,go_sem],by simp[c2,go_sem],by simp[c3,go_sem],by simp[c4,go_sem],by simp[c5,go_sem],by simp[c6,go_sem],by simp[c7,go_sem],by simp[c8,go_sem],by simp[c9,go_sem],by simp[c10,go_sem],by simp[c11,go_sem],by simp[c12,go_sem]⟩
theorem SB.put8 (h:SB w b v0 v1 v2 v3 v4 v5 v6 v7 v8 v9 v10 v11 v12) (u:Value):SB (w.setCell ⟨b,8,none⟩ u) b v0 v1 v2 v3 v4 v5 v6 v7 u v9 v10 v11 v12:=by
 obtain⟨l,f,c0,c1,c2,c3,c4,c5,c6,c7,c8,c9,c10,c11,c12⟩:=h
 exact⟨by simpa using l,fun o=>by simp[f],by simp[c0,go_sem],by simp[c1,go_sem],by simp[c2,go_sem],by simp[c3,go_sem],by simp[c4,go_sem],by simp[c5,go_sem],by simp[c6,go_sem],by simp[c7,go_sem],by simp[c8,go_sem],by simp[c9,go_sem],by simp[c10,go_sem],by simp[c11,go_sem],by simp[c12,go_sem]⟩
theorem SB.put9 (h:SB w b v0 v1 v2 v3 v4 v5 v6 v7 v8 v9 v10 v11 v12) (u:Value):SB (w.setCell ⟨b,9,none⟩ u) b v0 v1 v2 v3 v4 v5 v6 v7 v8 u v10 v11 v12:=by
 obtain⟨l,f,c0,c1,c2,c3,c4,c5,c6,c7,c8,c9,c10,c11,c12⟩:=h
 exact⟨by simpa using l,fun o=>by simp[f],by simp[c0,go_sem],by simp[c1,go_sem],by simp[c2,go_sem],by simp[c3,go_sem],by simp[c4,go_sem],by simp[c5,go_sem],by simp[c6,go_sem],by simp[c7,go_sem],by simp[c8,go_sem],by simp[c9,go_sem],by simp[c10,go_sem],by simp[c11,go_sem],by simp[c12,go_sem]⟩
theorem SB.put10 (h:SB w b v0 v1 v2 v3 v4 v5 v6 v7 v8 v9 v10 v11 v12) (u:Value):SB (w.setCell ⟨b,10,none⟩ u) b v0 v1 v2 v3 v4 v5 v6 v7 v8 v9 u v11 v12:=by
 obtain⟨l,f,c0,c1,c2,c3,c4,c5,c6,c7,c8,c9,c10,c11,c12⟩:=h
 exact⟨by simpa using l,fun o=>by simp[f],by simp[c0,go_sem],by simp[c1,go_sem],by simp[c2,go_sem],by simp[c3,go_sem],by simp[c4,go_sem],by simp[c5,go_sem],by simp[c6,go_sem],by simp[c7,go_sem],by simp[c8,go_sem],by simp[c9,go_sem],by simp[c10,go_sem],by simp[c11,go_sem],by simp[c12,go_sem]⟩
theorem SB.put11 (h:SB w b v0 v1 v2 v3 v4 v5 v6 v7 v8 v9 v10 v11 v12) (u:Value):SB (w.setCell ⟨b,11,none⟩ u) b v0 v1 v2 v3 v4 v5 v6 v7 v8 v9 v10 u v12:=by
 obtain⟨l,f,c0,c1,c2,c3,c4,c5,c6,c7,c8,c9,c10,c11,c12⟩:=h
 exact⟨by simpa using l,fun o=>by simp[f],by simp[c0,go_sem],by simp[c1,go_sem],by simp[c2,go_sem],by simp[c3,go_sem],by simp[c4,go_sem],by simp[c5,go_sem],by simp[c6,go_sem],by simp[c7,go_sem],by simp[c8,go_sem],by simp[c9,go_sem],by simp[c10,go_sem],by simp[c11,go_sem],by simp[c12,go_sem]⟩
theorem SB.put12 (h:SB w b v0 v1 v2 v3 v4 v5 v6 v7 v8 v9 v10 v11 v12) (u:Value):SB (w.setCell ⟨b,12,none⟩ u) b v0 v1 v2 v3 v4 v5 v6 v7 v8 v9 v10 v11 u:=by
 obtain⟨l,f,c0,c1,c2,c3,c4,c5,c6,c7,c8,c9,c10,c11,c12⟩:=h
 exact⟨by simpa using l,fun o=>by simp[f],by simp[c0,go_sem],by simp[c1,go_sem],by simp[c2,go_sem],by simp[c3,go_sem],by simp[c4,go_sem],by simp[c5,go_sem],by simp[c6,go_sem],by simp[c7,go_sem],by simp[c8,go_sem],by simp[c9,go_sem],by simp[c10,go_sem],by simp[c11,go_sem],by simp[c12,go_sem]⟩
theorem SB.there (h:SB w b v0 v1 v2 v3 v4 v5 v6 v7 v8 v9 v10 v11 v12):w.there b 0 13:=by
 obtain⟨l,f,c0,c1,c2,c3,c4,c5,c6,c7,c8,c9,c10,c11,c12⟩:=h
 intro j hj
 rcases (show j=0∨j=1∨j=2∨j=3∨j=4∨j=5∨j=6∨j=7∨j=8∨j=9∨j=10∨j=11∨j=12 by omega)with rfl | rfl | rfl | rfl | rfl | rfl | rfl | rfl | rfl | rfl | rfl | rfl | rfl
 all_goals exact⟨by simp[c0,c1,c2,c3,c4,c5,c6,c7,c8,c9,c10,c11,c12],f _⟩
end
theorem infoVal:(Tryz.prog.info? 43).map (fun i=>(i.zero,i.size,i.bytes))=some (some (.agg #[.int .i64 0,.int .i64 0,.int .i64 0,.string ByteArray.empty,.int .i64 0,.int .i64 0]),6,56):=by kernel_rfl
end Go.Proofs.YtppmgodahloogaaGreatDoor
namespace Go.Proofs.YtppmgodahloogaaGreatDoor
set_option linter.unusedVariables false
set_option linter.unusedSimpArgs false
set_option maxRecDepth 100000
open Go.RowKit
theorem val_flat (cs:List TValue):∀ds∈cs.map TValue.D,∀d∈ds,d.flat:=by
 intro ds hds d hd
 obtain⟨⟨a,b,c,t,e,f⟩,-,rfl⟩:=List.mem_map.1 hds
 rw[TValue.D_mk]at hd
 simp only[List.mem_cons,List.not_mem_nil,or_false]at hd
 rcases hd with rfl | rfl | rfl | rfl | rfl | rfl <;> trivial
theorem act_flat (cs:List TActive):∀ds∈cs.map TActive.D,∀d∈ds,d.flat:=by
 intro ds hds d hd
 obtain⟨⟨a,b⟩,-,rfl⟩:=List.mem_map.1 hds
 rw[TActive.D_mk]at hd
 simp only[List.mem_cons,List.not_mem_nil,or_false]at hd
 rcases hd with rfl | rfl <;> trivial
theorem infoAct:(Tryz.prog.info? 96).map (fun i=>(i.zero,i.size,i.bytes))=some (some (.agg #[.int .i64 0,.int .i64 0]),2,16):=by kernel_rfl
theorem infoObj:(Tryz.prog.info? 89).map (fun i=>(i.zero,i.size,i.bytes))=some (some (.agg #[.int .i64 0,.int .i64 0,.int .i64 0,.slice none 0 0,.slice none 0 0]),5,72):=by kernel_rfl
structure ClS (w:World) (N:Nat) (wx:World) (b:Nat) (v0 v1 v2 v3 v4 v5 v6 v7 v8 v9 v10 v11 v12:Value) (l:List Ent):Prop where
 box:SB wx b v0 v1 v2 v3 v4 v5 v6 v7 v8 v9 v10 v11 v12
 ents:Ents N wx l
 bel:Bel w wx
 low:w.heap.size≤b∧b<N∧N≤wx.heap.size
section
variable {w wx wy:World} {N b:Nat} {v0 v1 v2 v3 v4 v5 v6 v7 v8 v9 v10 v11 v12:Value} {l:List Ent}
theorem ClS.on (h:ClS w N wx b v0 v1 v2 v3 v4 v5 v6 v7 v8 v9 v10 v11 v12 l) (k:Bel wx wy):ClS w N wy b v0 v1 v2 v3 v4 v5 v6 v7 v8 v9 v10 v11 v12 l:=⟨h.box.on k,h.ents.bel k,h.bel.trans k,h.low.1,h.low.2.1,Nat.le_trans h.low.2.2 k.size⟩
theorem ClS.next (h:ClS w N wx b v0 v1 v2 v3 v4 v5 v6 v7 v8 v9 v10 v11 v12 l) (hb:Bel wx wy) {E:TypeId} {k:Nat} {u:Value} {L:List Nat} {ds:List (List Dat)} (ho:OwnD wy E k u L ds) (hn:∀x,Blk u L x→wx.heap.size≤x) (o:Nat) {u0 u1 u2 u3 u4 u5 u6 u7 u8 u9 u10 u11 u12:Value} (hbx:SB (wy.setCell ⟨b,o,none⟩ u) b u0 u1 u2 u3 u4 u5 u6 u7 u8 u9 u10 u11 u12):ClS w N (wy.setCell ⟨b,o,none⟩ u) b u0 u1 u2 u3 u4 u5 u6 u7 u8 u9 u10 u11 u12 (l++[⟨E,k,u,L,ds⟩]):=by
 refine⟨hbx,(h.ents.snoc hb (e:=⟨E,k,u,L,ds⟩) ho h.low.2.2 hn).far h.low.2.1 o u,Below.setCell (h.bel.trans hb) h.low.1 u,h.low.1,h.low.2.1,?_⟩
 have h1:=hb.size
 have h2:=h.low.2.2
 simp only[World.size_setCell]
 omega
end
end Go.Proofs.YtppmgodahloogaaGreatDoor
namespace Go.Proofs.YtppmgodahloogaaGreatDoor
set_option linter.unusedVariables false
set_option linter.unusedSimpArgs false
set_option maxRecDepth 100000
open Go.RowKit
theorem TObject.vals_own {w:World} {L:List Nat} {x0:Int} {x1:Int} {x2:Int} {x3:List TValue} {x4:List TValue} {vs:List Value} (h:Dat.OwnVals w L (TObject.mk x0 x1 x2 x3 x4).D vs):∃A3 c3 L3 A4 c4 L4,L=L3++L4∧vs=[.int .i64 x0,.int .i64 x1,.int .i64 x2,.slice A3 x3.length c3,.slice A4 x4.length c4]∧InI x0∧InI x1∧InI x2∧OwnRow w L3 6 A3 c3 (x3.map TValue.D)∧OwnRow w L4 6 A4 c4 (x4.map TValue.D):=by
 rw[TObject.D_mk]at h
 have hl:=h.length
 match vs,hl,h with
 | [u0,u1,u2,u3,u4],_,h =>
 simp only[Dat.OwnVals]at h
 obtain⟨M0,N0,e0,h0,M1,N1,e1,h1,M2,N2,e2,h2,M3,N3,e3,h3,M4,N4,e4,h4,en⟩:=h
 subst en
 subst e4
 subst e3
 subst e2
 subst e1
 subst e0
 obtain⟨rfl,rfl,g0⟩:=Dat.own_int.1 h0
 obtain⟨rfl,rfl,g1⟩:=Dat.own_int.1 h1
 obtain⟨rfl,rfl,g2⟩:=Dat.own_int.1 h2
 obtain⟨A3,c3,rfl,g3⟩:=Dat.own_row.1 h3
 obtain⟨A4,c4,rfl,g4⟩:=Dat.own_row.1 h4
 exact⟨A3,c3,M3,A4,c4,M4,by simp only[List.nil_append,List.append_nil],by simp only[List.length_map],g0,g1,g2,g3,g4⟩
theorem TObject.own_mk {w:World} {x0:Int} {x1:Int} {x2:Int} {x3:List TValue} {x4:List TValue} {A3:Option Addr} {c3:Nat} {L3:List Nat} {A4:Option Addr} {c4:Nat} {L4:List Nat} (h0:InI x0) (h1:InI x1) (h2:InI x2) (h3:OwnRow w L3 6 A3 c3 (x3.map TValue.D)) (h4:OwnRow w L4 6 A4 c4 (x4.map TValue.D)):Dat.OwnVals w (L3++L4) (TObject.mk x0 x1 x2 x3 x4).D [.int .i64 x0,.int .i64 x1,.int .i64 x2,.slice A3 x3.length c3,.slice A4 x4.length c4]:=by
 rw[TObject.D_mk]
 exact⟨[],_,(List.nil_append _).symm,Dat.own_int.2 ⟨rfl,rfl,h0⟩,⟨[],_,(List.nil_append _).symm,Dat.own_int.2 ⟨rfl,rfl,h1⟩,⟨[],_,(List.nil_append _).symm,Dat.own_int.2 ⟨rfl,rfl,h2⟩,⟨L3,_,rfl,Dat.own_row.2 ⟨_,_,by simp only[List.length_map],h3⟩,⟨L4,_,(List.append_nil _).symm,Dat.own_row.2 ⟨_,_,by simp only[List.length_map],h4⟩,rfl⟩⟩⟩⟩⟩
def ToObjectL (t:TObject):Prop:=∀(S:Nat→Prop) (w:World) (vs:List Value),Dat.HoldVals w S t.D vs→Dat.wtL t.D≤1048576 →
 Calls Tryz.prog 57 #[.agg vs.toArray] w (MadeVL w t.D)
set_option maxHeartbeats 800000 in
theorem toObjectS_ofL (ks:List TObject) (IH:∀(i:Nat) (hi:i<ks.length),ToObjectL ks[i]) (S:Nat→Prop) (w:World) (A:Option Addr) (c:Nat) (hR:Row w S 5 A c (ks.map TObject.D)) (hwt:ks.length+Dat.wtR (ks.map TObject.D)≤1048576) :
    Calls Tryz.prog 25 #[.slice A ks.length c] w (MadeRL w 5 (ks.map TObject.D)):=by
  have IH':=hide IH
  have HR:=hide hR
  have hlen:=hR.1
  have hcm:=hR.2.1
  simp only[List.length_map]at hlen
  unfold maxLen at hcm
  clear IH hR
  obtain⟨cur,hcur,hmk⟩:=make_rows (P:=Tryz.prog) (t:=36) (e:=89) (k:=5) ks.length (by omega) Tryz.underlying36 (by kernel_rfl)
  have HC:=hide hcur
  clear hcur
  have HW:=hide hwt
  clear hwt
  go_enter Tryz.func25,Tryz.ntmps25
  go_wp2_with (fail)
  have HF:=hide (FillO.start w 89 5 ks.length HC.out)
  clear hmk
  go_loopw [4] (fun iv wr=>∃k:Nat,k≤ks.length∧iv=.int .i64 k∧FillO wr w.heap.size 89 5 ks.length ((ks.map TObject.D).take k)∧Bel w wr) (fun iv _=>ks.length - (intOf iv).toNat)
  case atStart=>exact⟨0,Nat.zero_le _,rfl,HF.out,bl⟩
  case round =>
    obtain⟨k,hk,rfl,hF,hbw⟩:=hrel
    have HF1:=hide hF
    have hgl:=hF.lt
    clear hF HF
    rcases Nat.lt_or_ge k ks.length with hlt | hge
    · have hd:decide ((k:Int)<(ks.length:Int))=true:=by simp;omega
      have hi0:0≤(k:Int):=by omega
      have hi1:(k:Int)<(ks.length:Int):=by omega
      (obtain⟨b1,o1,x1_0,x1_1,x1_2,x1_3,x1_4,A1_3,C1_3,A1_4,C1_4,hA1,hS1,hl1,hx1,hv1,g1_0,g1_1,g1_2,g1_3,g1_4,c1_0,c1_1,c1_2,c1_3,c1_4⟩:=TObject.at HR.out k hlt;subst hA1;have HV1:=hide (Dat.HoldVals.bel hbw hv1);have hh1:=hbw.box b1 hl1;have hw1:=Nat.lt_of_lt_of_le hl1 (Bel.size hbw);replace c1_0:=(hh1 _).trans c1_0;replace c1_1:=(hh1 _).trans c1_1;replace c1_2:=(hh1 _).trans c1_2;replace c1_3:=(hh1 _).trans c1_3;replace c1_4:=(hh1 _).trans c1_4;have HX1:=hide hx1;have GR1_3:=hide g1_3;have GR1_4:=hide g1_4;clear hh1 hv1 hx1 hS1 g1_3 g1_4)
      have hw:=hide (Dat.wtR_take (ks.map TObject.D) k (by simpa using hlt))
      have hw':=hide (Dat.wtR_le (ks.map TObject.D) (k+1))
      have hwk:Dat.wtL ks[k].D≤1048576:=by have a:=hw.out;have b:=hw'.out;have c:=HW.out;rw[List.getElem_map]at a;omega
      go_wp2_with (fail)
      refine (IH'.out k hlt S _ _ (Dat.HoldVals.bel bl HV1.out) hwk).mono ?_
      rintro e w1 ⟨vs',L',rfl,hv',hnd',hlo',hb1⟩
      have HN':=hide hnd'
      have HL':=hide hlo'
      clear hnd' hlo'
      have HV':=hide hv'
      rw[HX1.out]at hv'
      obtain⟨A3,c3,A4,c4,rfl,-⟩:=TObject.vals (Dat.OwnVals.vals (S:=fun _=>True) (fun _ _=>trivial) hv')
      clear hv'
      obtain⟨y0,e0⟩:=(FillO.bel HF1.out (show Bel _ w1 from bl)).cell (i:=k*5) (by omega)
      obtain⟨y1,e1⟩:=(FillO.bel HF1.out (show Bel _ w1 from bl)).cell (i:=k*5+1) (by omega)
      obtain⟨y2,e2⟩:=(FillO.bel HF1.out (show Bel _ w1 from bl)).cell (i:=k*5+2) (by omega)
      obtain⟨y3,e3⟩:=(FillO.bel HF1.out (show Bel _ w1 from bl)).cell (i:=k*5+3) (by omega)
      obtain⟨y4,e4⟩:=(FillO.bel HF1.out (show Bel _ w1 from bl)).cell (i:=k*5+4) (by omega)
      have f0:=(FillO.bel HF1.out (show Bel _ w1 from bl)).free (k*5)
      have f1:=(FillO.bel HF1.out (show Bel _ w1 from bl)).free (k*5+1)
      have f2:=(FillO.bel HF1.out (show Bel _ w1 from bl)).free (k*5+2)
      have f3:=(FillO.bel HF1.out (show Bel _ w1 from bl)).free (k*5+3)
      have f4:=(FillO.bel HF1.out (show Bel _ w1 from bl)).free (k*5+4)
      go_wp2_with (fail)
      go_roundw
      case rel =>
       exact⟨k+1,by omega,by go_num,FillO.snoc5 HF1.out hlt rfl bl (Dat.OwnVals.bel bl HV'.out) HN'.out (fun b hb=>HL'.out b hb),bl⟩
      case measure=>simp[intOf];omega
    · have hd:decide ((k:Int)<(ks.length:Int))=false:=by simp;omega
      go_wp2_with (fail)
      go_returns
      obtain⟨L,q1,q2,q3⟩:=FillO.done HF1.out hge rfl (by unfold maxLen;omega)
      exact⟨some ⟨w.heap.size,0,none⟩,ks.length,L,by rw[List.length_map];rfl,q1,q2,q3,hbw⟩
set_option maxHeartbeats 2000000 in
theorem toObjectL_any:∀t:TObject,ToObjectL t:=by
 rintro⟨x0,x1,x2,x3,x4⟩
 intro S w vs hv hwt
 obtain⟨A3,c3,A4,c4,rfl,g0,g1,g2,hR3,hR4⟩:=TObject.vals hv
 have R3:=hide hR3
 have R4:=hide hR4
 rw[TObject.D_mk]at hwt
 simp only[Dat.wtL,Dat.wt,List.length_map]at hwt
 have hw3:x3.length+Dat.wtR (x3.map TValue.D)≤1048576:=by omega
 have hw4:x4.length+Dat.wtR (x4.map TValue.D)≤1048576:=by omega
 clear hv hwt hR3 hR4
 go_enter Tryz.func57,Tryz.ntmps57
 go_wp2_with (fail)
 refine (toValueSL_any x3 S _ _ _ (Row.bel bl R3.out) hw3).mono ?_
 rintro e w1 ⟨B3,d3,L3,rfl,hQ3,hN3,hL3,hb1⟩
 (have hz1:=hb1.sz;obtain⟨hk1_0,hf1_0,hl1_0,hn1_0⟩:=hb1.lay (w.heap.size);obtain⟨hk1_1,hf1_1,hl1_1,hn1_1⟩:=hb1.lay (w.heap.size+1);obtain⟨hk1_2,hf1_2,hl1_2,hn1_2⟩:=hb1.lay (w.heap.size+1+1))
 have N3:=hide hN3
 have V3:=hide (show ∀b,b∈L3→w.heap.size+2<b from fun b hb=>by have:=hL3 b hb;(try simp only[World.size_alloc,World.size_setCell,World.size_drew,World.heap_drewN]at this);omega)
 have U3:=hide hL3
 have T3:=hide (hQ3.lt)
 have Q3:=hide hQ3
 clear hQ3 hN3 hL3
 go_wp2_with (fail)
 refine (toValueSL_any x4 S _ _ _ (Row.bel bl R4.out) hw4).mono ?_
 rintro e w2 ⟨B4,d4,L4,rfl,hQ4,hN4,hL4,hb2⟩
 (have hz2:=hb2.sz;obtain⟨hk2_0,hf2_0,hl2_0,hn2_0⟩:=hb2.lay (w.heap.size);obtain⟨hk2_1,hf2_1,hl2_1,hn2_1⟩:=hb2.lay (w.heap.size+1);obtain⟨hk2_2,hf2_2,hl2_2,hn2_2⟩:=hb2.lay (w.heap.size+1+1))
 have N4:=hide hN4
 have V4:=hide (show ∀b,b∈L4→w.heap.size+2<b from fun b hb=>by have:=hL4 b hb;(try simp only[World.size_alloc,World.size_setCell,World.size_drew,World.heap_drewN]at this);omega)
 have U4:=hide (show ∀b,b∈L4→w1.heap.size≤b from fun b hb=>by have:=hL4 b hb;(try simp only[World.size_alloc,World.size_setCell,World.size_drew,World.heap_drewN]at this);omega)
 have T4:=hide (hQ4.lt)
 have Q4:=hide hQ4
 clear hQ4 hN4 hL4
 go_wp2_with (fail)
 exact bodyPost_ret (v:=.agg #[.int .i64 x0,.int .i64 x1,.int .i64 x2,.slice B3 x3.length d3,.slice B4 x4.length d4]) (by simp[results,Tryz.results57,go_sem,hk1_1,hf1_1,hk1_2,hf1_2,hk2_1,hf2_1,hk2_2,hf2_2]) rfl
  ⟨[.int .i64 x0,.int .i64 x1,.int .i64 x2,.slice B3 x3.length d3,.slice B4 x4.length d4],L3++L4,rfl,TObject.own_mk g0 g1 g2 (OwnRow.offS (S:=fun b=>w.heap.size+2<b) osl (fun b hb=>V3.out b hb) Q3.out) (OwnRow.offS (S:=fun b=>w.heap.size+2<b) osl (fun b hb=>V4.out b hb) Q4.out),nodup_app_lt (n:=w1.heap.size) N3.out (N4.out) (fun b hb=>T3.out b hb) (fun b hb=>by have:=U4.out b hb;omega),fun b hb=>(List.mem_append.1 hb).elim (fun hb=>by have:=V3.out b hb;omega) (fun hb=>by have:=V4.out b hb;omega),bl⟩
theorem toObjectSL_any (ks:List TObject) (S:Nat→Prop) (w:World) (A:Option Addr) (c:Nat) (hR:Row w S 5 A c (ks.map TObject.D)) (hwt:ks.length+Dat.wtR (ks.map TObject.D)≤1048576) :
  Calls Tryz.prog 25 #[.slice A ks.length c] w (MadeRL w 5 (ks.map TObject.D)):=toObjectS_ofL ks (fun _ _=>toObjectL_any _) S w A c hR hwt
theorem TObject.cnt_mk {x0:Int} {x1:Int} {x2:Int} {x3:List TValue} {x4:List TValue}:Dat.cntC (TObject.mk x0 x1 x2 x3 x4).D=3+Dat.cntR (x3.map TValue.D)+Dat.cntR (x4.map TValue.D):=by
 simp only[TObject.D_mk,Dat.cntC,Dat.cnt];(try omega)
theorem TObject.mark_own {w:World} {m:Int} {x0:Int} {x1:Int} {x2:Int} {x3:List TValue} {x4:List TValue} {A3:Option Addr} {c3:Nat} {L3:List Nat} {A4:Option Addr} {c4:Nat} {L4:List Nat} (h0:0≤m) (hm:m+(3+Dat.cntR (x3.map TValue.D)+Dat.cntR (x4.map TValue.D):Nat)≤4611686018427387904) (h3:OwnRow w L3 6 A3 c3 (Dat.markR (m+1+1+1) (x3.map TValue.D))) (h4:OwnRow w L4 6 A4 c4 (Dat.markR (m+1+1+1+(Dat.cntR (x3.map TValue.D):Nat)) (x4.map TValue.D))):Dat.OwnVals w (L3++L4) (Dat.markC m (TObject.mk x0 x1 x2 x3 x4).D) [.int .i64 (m),.int .i64 (m+1),.int .i64 (m+1+1),.slice A3 x3.length c3,.slice A4 x4.length c4]:=by
 have e:Dat.markC m (TObject.mk x0 x1 x2 x3 x4).D=[.int (m),.int (m+1),.int (m+1+1),.row 6 (Dat.markR (m+1+1+1) (x3.map TValue.D)),.row 6 (Dat.markR (m+1+1+1+(Dat.cntR (x3.map TValue.D):Nat)) (x4.map TValue.D))]:=by
  simp only[TObject.D_mk,Dat.markC,Dat.mark,Dat.cnt]
  first | done | rfl | (simp only[Nat.cast_one];done) | (simp;done) | (push_cast;simp)
 rw[e]
 exact⟨[],_,(List.nil_append _).symm,Dat.own_int.2 ⟨rfl,rfl,InI.of_le (by omega) (by omega)⟩,⟨[],_,(List.nil_append _).symm,Dat.own_int.2 ⟨rfl,rfl,InI.of_le (by omega) (by omega)⟩,⟨[],_,(List.nil_append _).symm,Dat.own_int.2 ⟨rfl,rfl,InI.of_le (by omega) (by omega)⟩,⟨L3,_,rfl,Dat.own_row.2 ⟨_,_,by simp only[Dat.markR_length,List.length_map],h3⟩,⟨L4,_,(List.append_nil _).symm,Dat.own_row.2 ⟨_,_,by simp only[Dat.markR_length,List.length_map],h4⟩,rfl⟩⟩⟩⟩⟩
theorem TObject.mcnt_le:∀t:TObject,Dat.cntC t.D≤16+16*Dat.wtL t.D:=by
 rintro⟨x0,x1,x2,x3,x4⟩
 have r3:=cntR_le_of TValue.D x3 (fun i hi=>TValue.mcnt_le x3[i])
 have r4:=cntR_le_of TValue.D x4 (fun i hi=>TValue.mcnt_le x4[i])
 rw[TObject.cnt_mk,TObject.D_mk]
 simp only[Dat.wtL,Dat.wt,List.length_map]
 omega
theorem TObject.mark_vals {w:World} {S:Nat→Prop} {m:Int} {x0:Int} {x1:Int} {x2:Int} {x3:List TValue} {x4:List TValue} {vs:List Value} (h:Dat.HoldVals w S (Dat.markC m (TObject.mk x0 x1 x2 x3 x4).D) vs):∃A3 c3 A4 c4,vs=[.int .i64 (m),.int .i64 (m+1),.int .i64 (m+1+1),.slice A3 x3.length c3,.slice A4 x4.length c4]∧Row w S 6 A3 c3 (Dat.markR (m+1+1+1) (x3.map TValue.D))∧Row w S 6 A4 c4 (Dat.markR (m+1+1+1+(Dat.cntR (x3.map TValue.D):Nat)) (x4.map TValue.D)):=by
 have e:Dat.markC m (TObject.mk x0 x1 x2 x3 x4).D=[.int (m),.int (m+1),.int (m+1+1),.row 6 (Dat.markR (m+1+1+1) (x3.map TValue.D)),.row 6 (Dat.markR (m+1+1+1+(Dat.cntR (x3.map TValue.D):Nat)) (x4.map TValue.D))]:=by
  simp only[TObject.D_mk,Dat.markC,Dat.mark,Dat.cnt]
  first | done | rfl | (simp only[Nat.cast_one];done) | (simp;done) | (push_cast;simp)
 rw[e]at h
 match vs,h with
 | [u0,u1,u2,u3,u4],h =>
 simp only[Dat.HoldVals]at h
 obtain⟨h0,h1,h2,h3,h4,-⟩:=h
 obtain⟨rfl,-⟩:=Dat.holds_int.1 h0
 obtain⟨rfl,-⟩:=Dat.holds_int.1 h1
 obtain⟨rfl,-⟩:=Dat.holds_int.1 h2
 obtain⟨A3,c3,rfl,g3⟩:=Dat.holds_row.1 h3
 obtain⟨A4,c4,rfl,g4⟩:=Dat.holds_row.1 h4
 exact⟨A3,c3,A4,c4,by simp only[Dat.markR_length,List.length_map],g3,g4⟩
set_option maxHeartbeats 2000000 in
theorem markObjectS_any (ks:List TObject) (L:List Nat) (w:World) (A:Option Addr) (c:Nat) (k:Int) (hR:OwnRow w L 5 A c (ks.map TObject.D)) (hnd:L.Nodup) (h0:0≤k) (hb:k+(Dat.cntR (ks.map TObject.D):Nat)≤4611686018427387904) :
    Calls Tryz.prog 41 #[.slice A ks.length c,.int .i64 k] w (Marked w L 5 A c k (ks.map TObject.D)):=by
  have HR:=hide hR
  have HN:=hide hnd
  have hlen:=hR.1
  have hcm:=hR.2.1
  simp only[List.length_map]at hlen
  unfold maxLen at hcm
  clear hR hnd
  go_enter Tryz.func41,Tryz.ntmps41
  go_wp2_with (fail)
  go_loopw [1,5] (fun kv iv wr=>∃i:Nat,i≤ks.length∧iv=.int .i64 i∧kv=.int .i64 (k+(Dat.cntR ((ks.map TObject.D).take i):Nat))∧Hid (OwnRow wr L 5 A c (Dat.markTo k i (ks.map TObject.D)))∧OffS (fun x=>x∉L) w wr) (fun _ iv _=>ks.length - (intOf iv).toNat)
  case atStart=>exact⟨0,Nat.zero_le _,rfl,by simp[Dat.cntR],(by rw[Dat.markTo_zero];exact HR.out),osl⟩
  case round =>
    obtain⟨i,hi,rfl,rfl,hO,hoff⟩:=hrel
    rcases Nat.lt_or_ge i ks.length with hlt | hge
    · have hd:decide ((i:Int)<(ks.length:Int))=true:=by simp;omega
      have hi0:0≤(i:Int):=by omega
      have hi1:(i:Int)<(ks.length:Int):=by omega
      obtain⟨x0,x1,x2,x3,x4,hx⟩:∃x0 x1 x2 x3 x4,ks[i]=.mk x0 x1 x2 x3 x4:=by cases ks[i];exact⟨_,_,_,_,_,rfl⟩
      have HX:=hide hx
      have ht:=Dat.cntR_take (ks.map TObject.D) i (by simpa using hlt)
      have hle:=Dat.cntR_le (ks.map TObject.D) (i+1)
      simp only[List.getElem_map,hx,TObject.cnt_mk]at ht
      obtain⟨q3,hq3⟩:∃q,Dat.cntR (x3.map TValue.D)=q:=⟨_,rfl⟩
      obtain⟨q4,hq4⟩:∃q,Dat.cntR (x4.map TValue.D)=q:=⟨_,rfl⟩
      simp only[hq3,hq4]at ht
      obtain⟨m,hm⟩:∃m:Int,k+(Dat.cntR ((ks.map TObject.D).take i):Nat)=m:=⟨_,rfl⟩
      have hm0:0≤m:=by omega
      have hm1:m+3+(q3:Nat)+(q4:Nat)≤4611686018427387904:=by omega
      have HE:=hide (show k+(Dat.cntR ((ks.map TObject.D).take (i+1)):Nat)=m+3+(q3:Nat)+(q4:Nat) by omega)
      rw[hm]
      have HM:=hide hm
      have HQ3:=hide hq3
      have HQ4:=hide hq4
      obtain⟨b,o,L1,Le,L2,vs,rfl,hb1,hf1,hLe,hv,hvl,hc,hput⟩:=OwnRow.at hO.out i (by rw[Dat.markTo_length];simpa using hlt)
      rw[Dat.markTo_get k i _ (by simpa using hlt),List.getElem_map,hx]at hv
      obtain⟨A3,c3,L_3,A4,c4,L_4,hEL,rfl,g0,g1,g2,g3,g4⟩:=TObject.vals_own hv
      have hEL2:=hEL.symm
      clear hEL
      subst hEL2
      have z0:wr.cell? ⟨b,o+i*5,none⟩=some (.int .i64 x0):=by simpa using hc 0 (by decide)
      have z1:wr.cell? ⟨b,o+i*5+1,none⟩=some (.int .i64 x1):=by simpa using hc 1 (by decide)
      have z2:wr.cell? ⟨b,o+i*5+2,none⟩=some (.int .i64 x2):=by simpa using hc 2 (by decide)
      have z3:wr.cell? ⟨b,o+i*5+3,none⟩=some (.slice A3 x3.length c3):=by simpa using hc 3 (by decide)
      have z4:wr.cell? ⟨b,o+i*5+4,none⟩=some (.slice A4 x4.length c4):=by simpa using hc 4 (by decide)
      obtain⟨hbL,hLeL,hbLe,hnLe,hrest⟩:=own_parts hLe HN.out
      have hNN:=hnLe
      have HNL3:=hide (List.nodup_append.1 hnLe).1
      have hdd3:=(List.nodup_append.1 hnLe).2.2
      have hnn3:=(List.nodup_append.1 hnLe).2.1
      have HNL4:=hide hnn3
      have HI3:=hide (show ∀x,x∈L_3→x∈(L_3++L_4)from fun x h=>by simp[h])
      have hb_3:b∉L_3:=fun h=>hbLe (HI3.out b h)
      have HI4:=hide (show ∀x,x∈L_4→x∈(L_3++L_4)from fun x h=>by simp[h])
      have hb_4:b∉L_4:=fun h=>hbLe (HI4.out b h)
      have HD3_4:=hide (show ∀x,x∈L_3→x∉L_4 from fun x h h2=>hdd3 x h x (by simp[h2]) rfl)
      have HD4_3:=hide (show ∀x,x∈L_4→x∉L_3 from fun x h h2=>HD3_4.out x h2 h)
      have G3:=hide g3
      have G4:=hide g4
      have HP:=hide hput
      have HLe:=hide hLe
      have HL2:=hide hLeL
      have HRS:=hide hrest
      clear hv hc hx ht hle hm hq3 hq4 hdd3 hnn3 hNN hnLe g3 g4 hput hLe hLeL hrest
      go_wp2_with (fail)
      refine (markValueS_any x3 L_3 _ A3 c3 _ (OwnRow.offS (S:=fun x=>x∈L_3) (w:=wr) osl (fun x hx=>hx) G3.out) HNL3.out (by omega) (by rw[HQ3.out];omega)).mono ?_
      rintro e w1 ⟨rfl,hO3,ho1⟩
      rw[HQ3.out]
      have HO3:=hide hO3
      clear hO3
      have hz1:=ho1.size
      (try simp only[World.size_alloc,World.size_setCell,World.size_drew,World.heap_drewN]at hz1)
      have hss1:=ho1.same b hb_3 (by first | (simp;done) | (simp;omega) | omega)
      have hk1:=hss1.1
      have hf_1:=hss1.2
      have hl1:b<w1.heap.size:=by omega
      have hoL1:=OffS.narrow (S':=fun x=>x∉L) ho1 (fun x hx h=>hx (HL2.out x (HI3.out x h)))
      have hoE1:=OffS.narrow (S':=fun x=>x∉(L_3++L_4)∧x≠b) ho1 (fun x hx h=>hx.1 (HI3.out x h))
      have ho1_4:=OffS.narrow (S':=fun x=>x∈L_4) ho1 (fun x hx=>HD4_3.out x hx)
      clear hss1 ho1
      go_wp2_with (fail)
      refine (markValueS_any x4 L_4 _ A4 c4 _ (OwnRow.offS (S:=fun x=>x∈L_4) (w:=wr) osl (fun x hx=>hx) G4.out) HNL4.out (by omega) (by rw[HQ4.out];omega)).mono ?_
      rintro e w2 ⟨rfl,hO4,ho2⟩
      rw[HQ4.out]
      have HO4:=hide hO4
      clear hO4
      have hz2:=ho2.size
      (try simp only[World.size_alloc,World.size_setCell,World.size_drew,World.heap_drewN]at hz2)
      have hss2:=ho2.same b hb_4 (by first | (simp;done) | (simp;omega) | omega)
      have hk2:=hss2.1
      have hf_2:=hss2.2
      have hl2:b<w2.heap.size:=by omega
      have hoL2:=OffS.narrow (S':=fun x=>x∉L) ho2 (fun x hx h=>hx (HL2.out x (HI4.out x h)))
      have hoE2:=OffS.narrow (S':=fun x=>x∉(L_3++L_4)∧x≠b) ho2 (fun x hx h=>hx.1 (HI4.out x h))
      have ho2_3:=OffS.narrow (S':=fun x=>x∈L_3) ho2 (fun x hx=>HD3_4.out x hx)
      clear hss2 ho2
      go_wp2_with (fail)
      go_roundw
      case rel =>
       refine⟨i+1,by omega,by go_num,by rw[HE.out];first | done | go_num,?_,osl⟩
       rw[←Dat.markTo_succ k i _ (by simpa using hlt)]
       refine hide ?_
       rw[List.getElem_map,HX.out,HM.out]
       refine HP.out _ _ [.int .i64 (m),.int .i64 (m+1),.int .i64 (m+1+1),.slice A3 x3.length c3,.slice A4 x4.length c4] (by (try simp only[←HQ3.out,←HQ4.out]);exact TObject.mark_own (m:=m) (x0:=x0) (x1:=x1) (x2:=x2) (x3:=x3) (x4:=x4) (A3:=A3) (c3:=c3) (L3:=L_3) (A4:=A4) (c4:=c4) (L4:=L_4) hm0 (by (try simp only[HQ3.out,HQ4.out]);omega) (by (try simp only[HQ3.out,HQ4.out]);exact OwnRow.offS (S:=fun x=>x∈L_3) (w:=w1) osl (fun x hx=>hx) HO3.out) (by (try simp only[HQ3.out,HQ4.out]);exact OwnRow.offS (S:=fun x=>x∈L_4) (w:=w2) osl (fun x hx=>hx) HO4.out)) rfl (by (try simp only[World.size_alloc,World.size_setCell,World.size_drew,World.heap_drewN]);omega) (fun z hz=>?_) (fun z=>by simp[go_sem,hk1,hf_1,hk2,hf_2,hf1]) (fun z hz=>?_) (cells_of5 (by simp[go_sem,hk1,hf_1,hk2,hf_2,z0,z1,z2,z3,z4]) (by simp[go_sem,hk1,hf_1,hk2,hf_2,z0,z1,z2,z3,z4]) (by simp[go_sem,hk1,hf_1,hk2,hf_2,z0,z1,z2,z3,z4]) (by simp[go_sem,hk1,hf_1,hk2,hf_2,z0,z1,z2,z3,z4]) (by simp[go_sem,hk1,hf_1,hk2,hf_2,z0,z1,z2,z3,z4]))
       · exact OffS.same (S:=fun x=>x∉(L_3++L_4)∧x≠b) (w:=wr) osl z ⟨(HRS.out z hz).1,(HRS.out z hz).2.1⟩ (hO.out.lt z (HRS.out z hz).2.2)
       · have n0:z≠o+i*5:=by omega
         have n1:z≠o+i*5+1:=by omega
         have n2:z≠o+i*5+2:=by omega
         have n3:z≠o+i*5+3:=by omega
         have n4:z≠o+i*5+4:=by omega
         simp[go_sem,hk1,hf_1,hk2,hf_2,n0,n1,n2,n3,n4]
      case measure=>simp[intOf];omega
    · have hd:decide ((i:Int)<(ks.length:Int))=false:=by simp;omega
      obtain rfl:i=ks.length:=by omega
      have HO2:=hide (show OwnRow wr L 5 A c (Dat.markR k (ks.map TObject.D))from by have:=hO.out;rw[Dat.markTo_all _ _ _ (by simp)]at this;exact this)
      go_wp2_with (fail)
      go_returns
      rw[List.take_of_length_le (by simp)]
      exact⟨rfl,HO2.out,hoff⟩
set_option maxHeartbeats 2000000 in
theorem heldObjectS_any (ks:List TObject) (S:Nat→Prop) (w:World) (A:Option Addr) (c:Nat) (k:Int) (hR:Row w S 5 A c (Dat.markR k (ks.map TObject.D))) (h0:0≤k) (hb:k+(Dat.cntR (ks.map TObject.D):Nat)≤4611686018427387904) :
  Calls Tryz.prog 46 #[.slice A ks.length c,.int .i64 k] w fun e w'=>e=.returned (.int .i64 (k+(Dat.cntR (ks.map TObject.D):Nat)))∧Bel w w':=by
 have HR:=hide hR
 have hlen:=hR.1
 have hcm:=hR.2.1
 simp only[Dat.markR_length,List.length_map]at hlen
 unfold maxLen at hcm
 clear hR
 go_enter Tryz.func46,Tryz.ntmps46
 go_wp2_with (fail)
 go_loopw [1,5] (fun kv iv wr=>∃i:Nat,i≤ks.length∧iv=.int .i64 i∧kv=.int .i64 (k+(Dat.cntR ((ks.map TObject.D).take i):Nat))∧Bel w wr) (fun _ iv _=>ks.length - (intOf iv).toNat)
 case atStart=>exact⟨0,Nat.zero_le _,rfl,by simp[Dat.cntR],bl⟩
 case round =>
  obtain⟨i,hi,rfl,rfl,hbw⟩:=hrel
  rcases Nat.lt_or_ge i ks.length with hlt | hge
  ·
   have hd:decide ((i:Int)<(ks.length:Int))=true:=by simp;omega
   have hi0:0≤(i:Int):=by omega
   have hi1:(i:Int)<(ks.length:Int):=by omega
   obtain⟨x0,x1,x2,x3,x4,hx⟩:∃x0 x1 x2 x3 x4,ks[i]=.mk x0 x1 x2 x3 x4:=by cases ks[i];exact⟨_,_,_,_,_,rfl⟩
   have HX:=hide hx
   have ht:=Dat.cntR_take (ks.map TObject.D) i (by simpa using hlt)
   have hle:=Dat.cntR_le (ks.map TObject.D) (i+1)
   simp only[List.getElem_map,hx,TObject.cnt_mk]at ht
   obtain⟨q3,hq3⟩:∃q,Dat.cntR (x3.map TValue.D)=q:=⟨_,rfl⟩
   obtain⟨q4,hq4⟩:∃q,Dat.cntR (x4.map TValue.D)=q:=⟨_,rfl⟩
   simp only[hq3,hq4]at ht
   obtain⟨m,hm⟩:∃m:Int,k+(Dat.cntR ((ks.map TObject.D).take i):Nat)=m:=⟨_,rfl⟩
   have hm0:0≤m:=by omega
   have hm1:m+3+(q3:Nat)+(q4:Nat)≤4611686018427387904:=by omega
   have HE:=hide (show k+(Dat.cntR ((ks.map TObject.D).take (i+1)):Nat)=m+3+(q3:Nat)+(q4:Nat) by omega)
   rw[hm]
   have HM:=hide hm
   have HQ3:=hide hq3
   have HQ4:=hide hq4
   obtain⟨b,o,vs,rfl,-,hb1,hv,hvl,hc⟩:=Row.at HR.out i (by rw[Dat.markR_length];simpa using hlt)
   rw[Dat.markR_get _ k i (by simpa using hlt),List.getElem_map,hx,hm]at hv
   obtain⟨A3,c3,A4,c4,rfl,g3,g4⟩:=TObject.mark_vals hv
   have z0:wr.cell? ⟨b,o+i*5,none⟩=some (.int .i64 (m)):=by rw[hbw.box b hb1];simpa using hc 0 (by decide)
   have z1:wr.cell? ⟨b,o+i*5+1,none⟩=some (.int .i64 (m+1)):=by rw[hbw.box b hb1];simpa using hc 1 (by decide)
   have z2:wr.cell? ⟨b,o+i*5+2,none⟩=some (.int .i64 (m+1+1)):=by rw[hbw.box b hb1];simpa using hc 2 (by decide)
   have z3:wr.cell? ⟨b,o+i*5+3,none⟩=some (.slice A3 x3.length c3):=by rw[hbw.box b hb1];simpa using hc 3 (by decide)
   have z4:wr.cell? ⟨b,o+i*5+4,none⟩=some (.slice A4 x4.length c4):=by rw[hbw.box b hb1];simpa using hc 4 (by decide)
   have G3:=hide g3
   have G4:=hide g4
   have hblt:b<wr.heap.size:=Nat.lt_of_lt_of_le hb1 hbw.size
   clear hv hc hx ht hle hm hq3 hq4 g3 g4
   go_wp2_with (fail)
   refine (heldValueS_any x3 S _ A3 c3 _ (Row.bel (w:=w) bl (by have:=G3.out;(try simp only[HQ3.out,HQ4.out]at this);exact this)) (by omega) (by rw[HQ3.out];omega)).mono ?_
   rintro e w101 ⟨rfl,hb101⟩;rw[HQ3.out];(have hz101:=hb101.sz;obtain⟨hk101_0,hf101_0,hl101_0,hn101_0⟩:=hb101.lay (b))
   go_wp2_with (fail)
   refine (heldValueS_any x4 S _ A4 c4 _ (Row.bel (w:=w) bl (by have:=G4.out;(try simp only[HQ3.out,HQ4.out]at this);exact this)) (by omega) (by rw[HQ4.out];omega)).mono ?_
   rintro e w102 ⟨rfl,hb102⟩;rw[HQ4.out];(have hz102:=hb102.sz;obtain⟨hk102_0,hf102_0,hl102_0,hn102_0⟩:=hb102.lay (b))
   go_wp2_with (fail)
   all_goals
    go_roundw
    case rel=>exact⟨i+1,by omega,by go_num,(by rw[HE.out];first | done | go_num),bl⟩
    case measure=>simp[intOf];omega
  ·
   have hd:decide ((i:Int)<(ks.length:Int))=false:=by simp;omega
   obtain rfl:i=ks.length:=by omega
   go_wp2_with (fail)
   go_returns
   rw[List.take_of_length_le (by simp)]
   exact⟨rfl,hbw⟩
end Go.Proofs.YtppmgodahloogaaGreatDoor
